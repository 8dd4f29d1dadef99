-- Written by a program of this session, after the kit's print.
import Derived.Test.YtdpllcmpndcbnaaPx0
import Derived.Test.YtdpllcmpndcbnaaP0Short
import Derived.Test.YtdpllcmpndcbnaaPx2
import Derived.Test.YtdpllcmpndcbnaaPx9
import Derived.Test.YtdpllcmpndcbnaaPx10
namespace Go.Proofs.Ytdpllcmpndcbnaa.P
open Go.RowKit Go.Proofs.YtdpllcmpndcbnaaW.PrintWords Go.Proofs.YtdpllcmpndcbnaaW.PrintLast Go.Proofs.YtdpllcmpndcbnaaW.PrintMore
attribute [local go_sem] max2_int min2_int max_two min_two max_three min_three max_four min_four   -- for this text's walks alone
set_option linter.unusedVariables false
set_option linter.unusedSimpArgs false

def twoslotref15_May.j0 : Nat → Bool → Int → Int → Int → Int → Int → Int → List (S27) → Option (Bool)
  | 0, _, _, _, _, _, _, _, _ => none
  | k + 1, x21, x376000, x376001, x376002, x376003, x377000, x377001, x377002 => if x21 = true then (some false) else ((twoslotref06_Stripes.f k x376000 x376001 x376002 x376003 x377000).bind fun bt378 => ((twoslotref06_Depth.f k x376000 x376001 x376002 x376003 x377000).bind fun bt380 => ((twoslotref06_Leaves.f k x376000 x376001 x376002 x376003 x377000).bind fun bt382 => (if bt380.1 = 1 then (if x377001 = bt380.1 then (if (x377002.length : Int) = bt382.1 then ((twoslotref15_refs.f k x376000 x376001 x376002 x376003 x377002).bind fun t384 => (some t384)) else (some false)) else (some false)) else (if x377001 = bt380.1 then (if (x377002.length : Int) = bt378.1 then ((twoslotref15_refs.f k x376000 x376001 x376002 x376003 x377002).bind fun t385 => (some t385)) else (some false)) else (some false))))))
def twoslotref15_May.f (k : Nat) (a0_0 : Int) (a0_1 : Int) (a0_2 : Int) (a0_3 : Int) (a1_0 : Int) (a1_1 : Int) (l1_2 : List (S27)) : Option (Bool) := if a1_0 < 0 then (twoslotref15_May.j0 k true a0_0 a0_1 a0_2 a0_3 a1_0 a1_1 l1_2) else ((twoslotref06_M.f a0_0 a0_1 a0_2 a0_3).bind fun t377 => (twoslotref15_May.j0 k (decide (a1_0 > t377)) a0_0 a0_1 a0_2 a0_3 a1_0 a1_1 l1_2))
def twoslotref15_May.T1 : Bool × List (List Nat × List Nat) := (true, [([], []), ([0], [0]), ([1], [1]), ([2], [2]), ([3], [3]), ([4, 3], [3, 4]), ([3], [3]), ([6, 3, 3], [3, 6]), ([5, 7, 3], [3, 5, 7]), ([3, 8], [3, 8])])
def twoslotref15_May.B1 : List Nat := [0, 1, 3, 7, 15, 31, 15, 79, 255, 511]
theorem twoslotref15_May.tab1 : rtab .any (opsOf Try.f46 1) = twoslotref15_May.T1 := by kernel_rfl
theorem twoslotref15_May.bits1 : waitsOk twoslotref15_May.T1.2 twoslotref15_May.B1 = true := by kernel_rfl
set_option maxHeartbeats 8000000 in
set_option maxRecDepth 100000 in
theorem twoslotref15_May.calls (k : Nat) (a0_0 : Int) (a0_1 : Int) (a0_2 : Int) (a0_3 : Int) (a1_0 : Int) (a1_1 : Int) (A1_2 : Option Addr) (c1_2 : Nat) (l1_2 : List (S27)) (r : Bool) (w : World) (hr1_2 : Kd.C k27 w A1_2 l1_2.length l1_2) (hc1_2 : l1_2.length ≤ c1_2) (h : twoslotref15_May.f k a0_0 a0_1 a0_2 a0_3 a1_0 a1_1 l1_2 = some r) :
    Calls Try.prog 46 #[.agg #[.int .i64 a0_0, .int .i64 a0_1, .int .i64 a0_2, .int .i64 a0_3], .agg #[.int .i64 a1_0, .int .i64 a1_1, .slice A1_2 l1_2.length c1_2]] w fun e w' => e = .returned (.bool r) ∧ Below w.heap.size w w' := by
  have hu24 := Try.underlying24
  have hu35 := Try.underlying35
  have HR1_2 := Aside0.mk hr1_2
  have HC1_2 := Aside0.mk hc1_2
  clear hr1_2 hc1_2
  have HB := Aside0.mk (Below.refl w.heap.size w)
  have H : (if a1_0 < 0 then (twoslotref15_May.j0 k true a0_0 a0_1 a0_2 a0_3 a1_0 a1_1 l1_2) else ((twoslotref06_M.f a0_0 a0_1 a0_2 a0_3).bind fun t377 => (twoslotref15_May.j0 k (decide (a1_0 > t377)) a0_0 a0_1 a0_2 a0_3 a1_0 a1_1 l1_2))) = some r := h
  clear h
  have HC3 := Aside0.mk H
  clear H
  go_enter Try.func46, Try.ntmps46
  go_upto_region 1 with (first | ((with_reducible refine gate_dst (N := 2) rfl ?_); (try (refine gate_guard (by rfl) ?_; dsimp only)); refine box_event rfl (N := 2) rfl (cs := #[.int .i64 a0_0, .int .i64 a0_1, .int .i64 a0_2, .int .i64 a0_3]) (t := 24) (by go_simp; try rfl) ?_; intro gb375 hg w4 hbox hb; have BK375 := Aside0.mk (hbox); have GW375 := Aside0.mk ((by rw [hg]; exact (sZ HB) : w.heap.size ≤ gb375)); have GE375 := Aside0.mk ((by rw [hg]; exact (sZ HB) : w.heap.size ≤ gb375)); replace HB := kH HB hb; clear hb hbox hg) | ((with_reducible refine gate_dst (N := 3) rfl ?_); (try (refine gate_guard (by rfl) ?_; dsimp only)); refine box_event rfl (N := 3) rfl (cs := #[.int .i64 a1_0, .int .i64 a1_1, .slice A1_2 l1_2.length c1_2]) (t := 35) (by go_simp; try rfl) ?_; intro gb376 hg w5 hbox hb; have BK376 := Aside0.mk (hbox); have GW376 := Aside0.mk ((by rw [hg]; exact (below_size (by repeat (first | exact sH HB.out | refine sN (w := w) ?_ | with_reducible refine sG (w := w) ?_ (by assumption)))) : w.heap.size ≤ gb376)); have GE376 := Aside0.mk ((by rw [hg]; exact (below_size (by repeat (first | exact sH HB.out | refine sN (w := w) ?_ | with_reducible refine sG (w := w) ?_ (by assumption)))) : w.heap.size ≤ gb376)); replace HB := Aside0.mk (below_step (by repeat (first | exact sH HB.out | refine sN (w := w) ?_ | with_reducible refine sG (w := w) ?_ (by assumption))) hb); have NB375_376 := Aside0.mk ((by rw [hg]; exact Nat.ne_of_lt (blk_lt (g := gb375) (o := .cells #[.int .i64 a0_0, .int .i64 a0_1, .int .i64 a0_2, .int .i64 a0_3] 24 (0, 0)) (by first | exact BK375.out | (refine sO ?_; exact BK375.out))) : gb375 ≠ gb376)); have NB376_375 := Aside0.mk ((by rw [hg]; exact Nat.ne_of_gt (blk_lt (g := gb375) (o := .cells #[.int .i64 a0_0, .int .i64 a0_1, .int .i64 a0_2, .int .i64 a0_3] 24 (0, 0)) (by first | exact BK375.out | (refine sO ?_; exact BK375.out))) : gb376 ≠ gb375)); replace BK375 := kB BK375 hb; clear hb hbox hg))
  (try simp only [Act.put, List.setIfInBounds_toArray, List.set_cons_zero, List.set_cons_succ])
  go_cut [21] (fun v21 wc => ∃ (kq : Nat) (x21_2 : Bool), v21 = .bool x21_2 ∧ Aside0 (twoslotref15_May.j0 kq x21_2 a0_0 a0_1 a0_2 a0_3 a1_0 a1_1 l1_2 = some r) ∧ Aside0 (kq ≤ k) ∧ Aside0 (wc.heap[gb375]? = some (.cells #[.int .i64 a0_0, .int .i64 a0_1, .int .i64 a0_2, .int .i64 a0_3] 24 (0, 0))) ∧ Aside0 (wc.heap[gb376]? = some (.cells #[.int .i64 a1_0, .int .i64 a1_1, (.slice A1_2 l1_2.length c1_2)] 35 (0, 0))) ∧ Aside0 (Below w.heap.size w wc))
  case first =>
    have H := HC3.out
    clear HC3
    by_cases c6 : a1_0 < 0
    · rw [if_pos c6] at H
      have c6b0 : decide (a1_0 < 0) = true := decide_eq_true c6
      clear c6
      (first | rw [c6b0] | (simp only [i64_w, i32_w]; rw [c6b0]) | skip)
      have H' := Aside0.mk H
      clear H
      try go_wp2
      replace BK375 := Aside0.mk (blk_drew BK375.out); replace BK376 := Aside0.mk (blk_drew BK376.out); replace HB := Aside0.mk (below_drew1 HB.out)
      refine start_ (n := 10) (S := fun w' => w'.cell? ⟨gb376, 0, none⟩ = some (.int .i64 a1_0) ∧ w'.cell? ⟨gb376, 1, none⟩ = some (.int .i64 a1_1) ∧ w'.cell? ⟨gb376, 2, none⟩ = some (.slice A1_2 l1_2.length c1_2)) (ds := []) #[O, O, O, O, O, O, O, O, O, O] (by kernel_rfl) rfl rfl ⟨(blk_cell BK376.out 0).trans rfl, (blk_cell BK376.out 1).trans rfl, (blk_cell BK376.out 2).trans rfl⟩ (fun hHeld => ?_); refine with_tabW twoslotref15_May.tab1 twoslotref15_May.bits1 (fun HT_ HW_ => ?_)
      generalize w5.drew = w7 at BK375 BK376 HB hHeld ⊢
      refine pu (i := 0) (N := some 12) (v := ?_) (a' := ?_) #[X, O, O, O, O, O, O, O, O, O] rfl rfl HT_ (by kernel_rfl) (fun _ _ _ h => h) ⟨by rfl, ?_⟩ ?_ ?_
      rotate_left
      · intro w'; go_simp; with_reducible rfl
      rotate_left
      · simp only [sP]
        rfl
      refine tu (i := 1) (N := some 13) (v := ?_) (a' := ?_) #[X, X, O, O, O, O, O, O, O, O] rfl rfl HT_ HW_ (by kernel_rfl) (fun _ _ _ h => h) ⟨by rfl, ?_⟩ hHeld ?_ ?_
      rotate_left
      · rintro w' ⟨s0, s1, s2⟩; go_simp; with_reducible rfl
      rotate_left
      · simp only [sP]
        rfl
      refine pu (i := 2) (N := some 14) (v := ?_) (a' := ?_) #[X, X, X, O, O, O, O, O, O, O] rfl rfl HT_ (by kernel_rfl) (fun _ _ _ h => h) ⟨by rfl, ?_⟩ ?_ ?_
      rotate_left
      · intro w'; go_simp; with_reducible rfl
      rotate_left
      · simp only [sP]
        rfl
      refine pu (i := 3) (N := some 15) (v := ?_) (a' := ?_) #[X, X, X, X, O, O, O, O, O, O] rfl rfl HT_ (by kernel_rfl) (fun _ _ _ h => h) ⟨by rfl, ?_⟩ ?_ ?_
      rotate_left
      · intro w'; go_simp; with_reducible rfl
      rotate_left
      · simp only [sP]
        rfl
      refine pure_ (i := 4) (N := some 16) (v := undef) (a' := ?_) #[X, X, X, X, X, O, O, O, O, O] rfl rfl (any_of HT_.out (by kernel_rfl)) (fun _ _ _ h => h) (Or.inr ⟨by rfl, rfl⟩) ?_ ?_
      rotate_left
      · simp only [sP]
        rfl
      refine pure_ (i := 5) (N := some 17) (v := undef) (a' := ?_) #[X, X, X, X, X, X, O, O, O, O] rfl rfl (any_of HT_.out (by kernel_rfl)) (fun _ _ _ h => h) (Or.inr ⟨by rfl, rfl⟩) ?_ ?_
      rotate_left
      · simp only [sP]
        rfl
      refine pure_ (i := 6) (N := some 18) (v := undef) (a' := ?_) #[X, X, X, X, X, X, X, O, O, O] rfl rfl (any_of HT_.out (by kernel_rfl)) (fun _ _ _ h => h) (Or.inr ⟨by rfl, rfl⟩) ?_ ?_
      rotate_left
      · simp only [sP]
        rfl
      refine pure_ (i := 7) (N := some 19) (v := undef) (a' := ?_) #[X, X, X, X, X, X, X, X, O, O] rfl rfl (any_of HT_.out (by kernel_rfl)) (fun _ _ _ h => h) (Or.inr ⟨by rfl, rfl⟩) ?_ ?_
      rotate_left
      · simp only [sP]
        rfl
      refine pure_ (i := 8) (N := some 20) (v := undef) (a' := ?_) #[X, X, X, X, X, X, X, X, X, O] rfl rfl (any_of HT_.out (by kernel_rfl)) (fun _ _ _ h => h) (Or.inr ⟨by rfl, rfl⟩) ?_ ?_
      rotate_left
      · simp only [sP]
        rfl
      refine pu (i := 9) (N := some 21) (v := ?_) (a' := ?_) #[X, X, X, X, X, X, X, X, X, X] rfl rfl HT_ (by kernel_rfl) (fun _ _ _ h => h) ⟨by rfl, ?_⟩ ?_ ?_
      rotate_left
      · intro w'; go_simp; with_reducible rfl
      rotate_left
      · simp only [sP]
        rfl
      refine done_ (done_of HT_.out (by kernel_rfl)) ?_
      try go_wp2
      go_meet
      case rel => exact ⟨_, (true), (by first | rfl | (simp; done) | (simp [*]; done)), H', ⟨by first | omega | exact Nat.le_refl _⟩, ⟨by (try refine sO ?_); exact BK375.out⟩, ⟨by (try refine sO ?_); exact BK376.out⟩, ⟨by repeat (first | exact sH HB.out | refine sN (w := w) ?_ | with_reducible refine sG (w := w) ?_ (by assumption))⟩⟩
    · rw [if_neg c6] at H
      have c6b0 : decide (a1_0 < 0) = false := decide_eq_false c6
      clear c6
      (first | rw [c6b0] | (simp only [i64_w, i32_w]; rw [c6b0]) | skip)
      replace H := Option.bind_eq_some_iff.mp H
      obtain ⟨t377, A80, H⟩ := H
      try dsimp only at H
      have A8 := Aside0.mk A80
      clear A80
      have H' := Aside0.mk H
      clear H
      try go_wp2
      replace BK375 := Aside0.mk (blk_drew BK375.out); replace BK376 := Aside0.mk (blk_drew BK376.out); replace HB := Aside0.mk (below_drew1 HB.out)
      refine start_ (n := 10) (S := fun w' => w'.cell? ⟨gb376, 0, none⟩ = some (.int .i64 a1_0) ∧ w'.cell? ⟨gb376, 1, none⟩ = some (.int .i64 a1_1) ∧ w'.cell? ⟨gb376, 2, none⟩ = some (.slice A1_2 l1_2.length c1_2) ∧ w'.cell? ⟨gb375, 0, none⟩ = some (.int .i64 a0_0) ∧ w'.cell? ⟨gb375, 1, none⟩ = some (.int .i64 a0_1) ∧ w'.cell? ⟨gb375, 2, none⟩ = some (.int .i64 a0_2) ∧ w'.cell? ⟨gb375, 3, none⟩ = some (.int .i64 a0_3)) (ds := []) #[O, O, O, O, O, O, O, O, O, O] (by kernel_rfl) rfl rfl ⟨(blk_cell BK376.out 0).trans rfl, (blk_cell BK376.out 1).trans rfl, (blk_cell BK376.out 2).trans rfl, (blk_cell BK375.out 0).trans rfl, (blk_cell BK375.out 1).trans rfl, (blk_cell BK375.out 2).trans rfl, (blk_cell BK375.out 3).trans rfl⟩ (fun hHeld => ?_); refine with_tabW twoslotref15_May.tab1 twoslotref15_May.bits1 (fun HT_ HW_ => ?_)
      generalize w5.drew = w9 at BK375 BK376 HB hHeld ⊢
      refine pu (i := 0) (N := some 12) (v := ?_) (a' := ?_) #[X, O, O, O, O, O, O, O, O, O] rfl rfl HT_ (by kernel_rfl) (fun _ _ _ h => h) ⟨by rfl, ?_⟩ ?_ ?_
      rotate_left
      · intro w'; go_simp; with_reducible rfl
      rotate_left
      · simp only [sP]
        rfl
      refine tu (i := 1) (N := some 13) (v := ?_) (a' := ?_) #[X, X, O, O, O, O, O, O, O, O] rfl rfl HT_ HW_ (by kernel_rfl) (fun _ _ _ h => h) ⟨by rfl, ?_⟩ hHeld ?_ ?_
      rotate_left
      · rintro w' ⟨s0, s1, s2, s3, s4, s5, s6⟩; go_simp; with_reducible rfl
      rotate_left
      · simp only [sP]
        rfl
      refine pu (i := 2) (N := some 14) (v := ?_) (a' := ?_) #[X, X, X, O, O, O, O, O, O, O] rfl rfl HT_ (by kernel_rfl) (fun _ _ _ h => h) ⟨by rfl, ?_⟩ ?_ ?_
      rotate_left
      · intro w'; go_simp; with_reducible rfl
      rotate_left
      · simp only [sP]
        rfl
      refine pu (i := 3) (N := some 15) (v := ?_) (a' := ?_) #[X, X, X, X, O, O, O, O, O, O] rfl rfl HT_ (by kernel_rfl) (fun _ _ _ h => h) ⟨by rfl, ?_⟩ ?_ ?_
      rotate_left
      · intro w'; go_simp; with_reducible rfl
      rotate_left
      · simp only [sP]
        rfl
      refine pu (i := 4) (N := some 16) (v := ?_) (a' := ?_) #[X, X, X, X, X, O, O, O, O, O] rfl rfl HT_ (by kernel_rfl) (fun _ _ _ h => h) ⟨by rfl, ?_⟩ ?_ ?_
      rotate_left
      · intro w'; go_simp; with_reducible rfl
      rotate_left
      · simp only [sP]
        rfl
      refine tu (i := 5) (N := some 17) (v := ?_) (a' := ?_) #[X, X, X, X, X, X, O, O, O, O] rfl rfl HT_ HW_ (by kernel_rfl) (fun _ _ _ h => h) ⟨by rfl, ?_⟩ hHeld ?_ ?_
      rotate_left
      · rintro w' ⟨s0, s1, s2, s3, s4, s5, s6⟩; go_simp; with_reducible rfl
      rotate_left
      · simp only [sP]
        rfl
      refine tu (i := 6) (N := some 18) (v := ?_) (a' := ?_) #[X, X, X, X, X, X, X, O, O, O] rfl rfl HT_ HW_ (by kernel_rfl) (fun _ _ _ h => h) ⟨by rfl, ?_⟩ hHeld ?_ ?_
      rotate_left
      · rintro w' ⟨s0, s1, s2, s3, s4, s5, s6⟩; go_simp; with_reducible rfl
      rotate_left
      · simp only [sP]
        rfl
      refine one_ (i := 7) (N := some 19) #[X, X, X, X, X, X, X, X, O, O] rfl rfl (one_of HT_.out (by kernel_rfl)) (by decide) (fun K hK => ?_)
      refine goes_ Try.func57 (by kernel_rfl) rfl #[.agg #[.int .i64 a0_0, .int .i64 a0_1, .int .i64 a0_2, .int .i64 a0_3]] (by rfl) rfl rfl (by (try simp only [sM]); first | done | rfl | (simp only [sT]; rfl)) ?_
      with_reducible refine (twoslotref06_M.calls a0_0 a0_1 a0_2 a0_3 t377 _ A8.out).mono ?_
      rintro e w10 ⟨rfl, hb⟩
      refine ⟨_, rfl, ?_⟩
      replace BK375 := kB BK375 hb; replace BK376 := kB BK376 hb; replace HB := Aside0.mk (below_step (by repeat (first | exact sH HB.out | refine sN (w := w) ?_ | with_reducible refine sG (w := w) ?_ (by assumption))) hb)
      (try clear hb)
      (try clear hb2)
      (try clear hk)
      (try clear hi)
      refine hK.out _ _ ⟨(blk_cell BK376.out 0).trans rfl, (blk_cell BK376.out 1).trans rfl, (blk_cell BK376.out 2).trans rfl, (blk_cell BK375.out 0).trans rfl, (blk_cell BK375.out 1).trans rfl, (blk_cell BK375.out 2).trans rfl, (blk_cell BK375.out 3).trans rfl⟩ (fun hHeld => ?_)
      clear hK K
      refine norm_ (a' := ?_) ?_ ?_
      rotate_left
      · show Act.put _ (some 19) _ = _
        simp only [sP]
        rfl
      refine pu (i := 8) (N := some 20) (v := ?_) (a' := ?_) #[X, X, X, X, X, X, X, X, X, O] rfl rfl HT_ (by kernel_rfl) (fun _ _ _ h => h) ⟨by rfl, ?_⟩ ?_ ?_
      rotate_left
      · intro w'; go_simp; with_reducible rfl
      rotate_left
      · simp only [sP]
        rfl
      refine pu (i := 9) (N := some 21) (v := ?_) (a' := ?_) #[X, X, X, X, X, X, X, X, X, X] rfl rfl HT_ (by kernel_rfl) (fun _ _ _ h => h) ⟨by rfl, ?_⟩ ?_ ?_
      rotate_left
      · intro w'; go_simp; with_reducible rfl
      rotate_left
      · simp only [sP]
        rfl
      refine done_ (done_of HT_.out (by kernel_rfl)) ?_
      try go_wp2
      go_meet
      case rel => exact ⟨_, (decide (a1_0 > t377)), (by first | rfl | (simp; done) | (simp [*]; done)), H', ⟨by first | omega | exact Nat.le_refl _⟩, ⟨by (try refine sO ?_); exact BK375.out⟩, ⟨by (try refine sO ?_); exact BK376.out⟩, ⟨by repeat (first | exact sH HB.out | refine sN (w := w) ?_ | with_reducible refine sG (w := w) ?_ (by assumption))⟩⟩
  case rest =>
    clear HC3
    try clear c1
    try clear p2
    try clear c4
    try clear c5
    try clear c6
    try clear c6b0
    obtain ⟨kq, x21_2, rfl, HA, HJ2, BK375, BK376, HB⟩ := hcut
    cases kq with
    | zero => exact absurd HA.out (by simp [twoslotref15_May.j0])
    | succ kj2 =>
      have H := HA.out
      clear HA
      simp only [twoslotref15_May.j0] at H
      by_cases c11 : x21_2 = true
      · subst c11
        have H1 : (some false) = some r := by rw [if_pos rfl] at H; exact H
        clear H
        have H := H1
        clear H1
        obtain rfl := Option.some.inj H
        go_wp2
        go_ret
        exact ⟨by first | rfl | (simp [errW_none, errW_some] <;> rfl) | (simp [*, errW_none, errW_some] <;> rfl), by repeat (first | exact sH HB.out | refine sN (w := w) ?_ | with_reducible refine sG (w := w) ?_ (by assumption))⟩
      · replace c11 := Bool.eq_false_iff.mpr c11
        subst c11
        have H1 : ((twoslotref06_Stripes.f kj2 a0_0 a0_1 a0_2 a0_3 a1_0).bind fun bt378 => ((twoslotref06_Depth.f kj2 a0_0 a0_1 a0_2 a0_3 a1_0).bind fun bt380 => ((twoslotref06_Leaves.f kj2 a0_0 a0_1 a0_2 a0_3 a1_0).bind fun bt382 => (if bt380.1 = 1 then (if a1_1 = bt380.1 then (if (l1_2.length : Int) = bt382.1 then ((twoslotref15_refs.f kj2 a0_0 a0_1 a0_2 a0_3 l1_2).bind fun t384 => (some t384)) else (some false)) else (some false)) else (if a1_1 = bt380.1 then (if (l1_2.length : Int) = bt378.1 then ((twoslotref15_refs.f kj2 a0_0 a0_1 a0_2 a0_3 l1_2).bind fun t385 => (some t385)) else (some false)) else (some false)))))) = some r := by rw [if_neg (show ¬ (false = true) by decide)] at H; exact H
        clear H
        have H := H1
        clear H1
        replace H := Option.bind_eq_some_iff.mp H
        obtain ⟨⟨t378, t379⟩, A120, H⟩ := H
        try dsimp only at H
        have A12 := Aside0.mk A120
        clear A120
        replace H := Option.bind_eq_some_iff.mp H
        obtain ⟨⟨t380, t381⟩, A130, H⟩ := H
        try dsimp only at H
        have A13 := Aside0.mk A130
        clear A130
        replace H := Option.bind_eq_some_iff.mp H
        obtain ⟨⟨t382, t383⟩, A140, H⟩ := H
        try dsimp only at H
        have A14 := Aside0.mk A140
        clear A140
        by_cases c15 : t380 = 1
        · rw [if_pos c15] at H
          have c15b0 : (t380 == 1) = true := beq_iff_eq.mpr c15
          have c15b1 : (t380 != 1) = false := bne_eq_false_iff_eq.mpr c15
          clear c15
          by_cases c16 : a1_1 = t380
          · rw [if_pos c16] at H
            have c16b0 : (a1_1 == t380) = true := beq_iff_eq.mpr c16
            have c16b1 : (a1_1 != t380) = false := bne_eq_false_iff_eq.mpr c16
            clear c16
            by_cases c17 : (l1_2.length : Int) = t382
            · rw [if_pos c17] at H
              have c17b0 : ((l1_2.length : Int) == t382) = true := beq_iff_eq.mpr c17
              have c17b1 : ((l1_2.length : Int) != t382) = false := bne_eq_false_iff_eq.mpr c17
              clear c17
              replace H := Option.bind_eq_some_iff.mp H
              obtain ⟨t384, A180, H⟩ := H
              try dsimp only at H
              have A18 := Aside0.mk A180
              clear A180
              obtain rfl := Option.some.inj H
              have hnb19 := NB375_376.out
              have hnc19 := NB376_375.out
              obtain ⟨hcz20_0, hcz20_1, hcz20_2, hcz20_3, hfz20_0, hfz20_1, hfz20_2, hfz20_3⟩ := cs4 BK375.out; obtain ⟨hcz21_0, hcz21_1, hcz21_2, hfz21_0, hfz21_1, hfz21_2⟩ := cs3 BK376.out
              go_wp2_with (first | ((with_reducible refine gate_callee (f := 58) rfl ?_); refine goesL_ (some 26) rfl rfl Try.func58 (by kernel_rfl) rfl #[.agg #[.int .i64 a0_0, .int .i64 a0_1, .int .i64 a0_2, .int .i64 a0_3], .int .i64 a1_0] rfl (by (try simp only [sM]); first | done | rfl | (simp only [sT]; rfl)) ?_; (with_reducible refine (twoslotref06_Stripes.calls kj2 a0_0 a0_1 a0_2 a0_3 a1_0 t378 t379 _ A12.out).mono ?_); rintro e w22 ⟨rfl, hb⟩; refine ⟨_, rfl, ?_⟩; replace BK375 := kB BK375 hb; replace BK376 := kB BK376 hb; replace HB := Aside0.mk (below_step (by repeat (first | exact sH HB.out | refine sN (w := w) ?_ | with_reducible refine sG (w := w) ?_ (by assumption))) hb); (try clear hb); (try clear hb2); (try clear hk); (try clear hi); obtain ⟨hcz23_0, hcz23_1, hcz23_2, hcz23_3, hfz23_0, hfz23_1, hfz23_2, hfz23_3⟩ := cs4 BK375.out; obtain ⟨hcz24_0, hcz24_1, hcz24_2, hfz24_0, hfz24_1, hfz24_2⟩ := cs3 BK376.out) | ((with_reducible refine gate_callee (f := 59) rfl ?_); refine goesL_ (some 33) rfl rfl Try.func59 (by kernel_rfl) rfl #[.agg #[.int .i64 a0_0, .int .i64 a0_1, .int .i64 a0_2, .int .i64 a0_3], .int .i64 a1_0] rfl (by (try simp only [sM]); first | done | rfl | (simp only [sT]; rfl)) ?_; (with_reducible refine (twoslotref06_Depth.calls kj2 a0_0 a0_1 a0_2 a0_3 a1_0 t380 t381 _ A13.out).mono ?_); rintro e w25 ⟨rfl, hb⟩; refine ⟨_, rfl, ?_⟩; replace BK375 := kB BK375 hb; replace BK376 := kB BK376 hb; replace HB := Aside0.mk (below_step (by repeat (first | exact sH HB.out | refine sN (w := w) ?_ | with_reducible refine sG (w := w) ?_ (by assumption))) hb); (try clear hb); (try clear hb2); (try clear hk); (try clear hi); obtain ⟨hcz26_0, hcz26_1, hcz26_2, hcz26_3, hfz26_0, hfz26_1, hfz26_2, hfz26_3⟩ := cs4 BK375.out; obtain ⟨hcz27_0, hcz27_1, hcz27_2, hfz27_0, hfz27_1, hfz27_2⟩ := cs3 BK376.out) | ((with_reducible refine gate_callee (f := 60) rfl ?_); refine goesL_ (some 40) rfl rfl Try.func60 (by kernel_rfl) rfl #[.agg #[.int .i64 a0_0, .int .i64 a0_1, .int .i64 a0_2, .int .i64 a0_3], .int .i64 a1_0] rfl (by (try simp only [sM]); first | done | rfl | (simp only [sT]; rfl)) ?_; (with_reducible refine (twoslotref06_Leaves.calls kj2 a0_0 a0_1 a0_2 a0_3 a1_0 t382 t383 _ A14.out).mono ?_); rintro e w28 ⟨rfl, hb⟩; refine ⟨_, rfl, ?_⟩; replace BK375 := kB BK375 hb; replace BK376 := kB BK376 hb; replace HB := Aside0.mk (below_step (by repeat (first | exact sH HB.out | refine sN (w := w) ?_ | with_reducible refine sG (w := w) ?_ (by assumption))) hb); (try clear hb); (try clear hb2); (try clear hk); (try clear hi); obtain ⟨hcz29_0, hcz29_1, hcz29_2, hfz29_0, hfz29_1, hfz29_2⟩ := cs3 BK376.out; obtain ⟨hcz30_0, hcz30_1, hcz30_2, hcz30_3, hfz30_0, hfz30_1, hfz30_2, hfz30_3⟩ := cs4 BK375.out) | (go_at_call 43; (with_reducible refine (twoslotref15_refs.calls kj2 a0_0 a0_1 a0_2 a0_3 _ _ l1_2 t384 _ ?side1 ?side2 A18.out).mono ?_); (case side1 => exact sC (Kd.C_below HR1_2.out HB.out)); (case side2 => exact HC1_2.out); rintro e w31 ⟨rfl, hb⟩; replace BK375 := kB BK375 hb; replace BK376 := kB BK376 hb; replace HB := Aside0.mk (below_step (by repeat (first | exact sH HB.out | refine sN (w := w) ?_ | with_reducible refine sG (w := w) ?_ (by assumption))) hb); (try clear hb); (try clear hb2); (try clear hk); (try clear hi)))
              go_ret
              exact ⟨by first | rfl | (simp [errW_none, errW_some] <;> rfl) | (simp [*, errW_none, errW_some] <;> rfl), by repeat (first | exact sH HB.out | refine sN (w := w) ?_ | with_reducible refine sG (w := w) ?_ (by assumption))⟩
            · rw [if_neg c17] at H
              have c17b0 : ((l1_2.length : Int) == t382) = false := beq_eq_false_iff_ne.mpr c17
              have c17b1 : ((l1_2.length : Int) != t382) = true := bne_iff_ne.mpr c17
              obtain rfl := Option.some.inj H
              have hnb32 := NB375_376.out
              have hnc32 := NB376_375.out
              obtain ⟨hcz33_0, hcz33_1, hcz33_2, hcz33_3, hfz33_0, hfz33_1, hfz33_2, hfz33_3⟩ := cs4 BK375.out; obtain ⟨hcz34_0, hcz34_1, hcz34_2, hfz34_0, hfz34_1, hfz34_2⟩ := cs3 BK376.out
              go_wp2_with (first | ((with_reducible refine gate_callee (f := 58) rfl ?_); refine goesL_ (some 26) rfl rfl Try.func58 (by kernel_rfl) rfl #[.agg #[.int .i64 a0_0, .int .i64 a0_1, .int .i64 a0_2, .int .i64 a0_3], .int .i64 a1_0] rfl (by (try simp only [sM]); first | done | rfl | (simp only [sT]; rfl)) ?_; (with_reducible refine (twoslotref06_Stripes.calls kj2 a0_0 a0_1 a0_2 a0_3 a1_0 t378 t379 _ A12.out).mono ?_); rintro e w35 ⟨rfl, hb⟩; refine ⟨_, rfl, ?_⟩; replace BK375 := kB BK375 hb; replace BK376 := kB BK376 hb; replace HB := Aside0.mk (below_step (by repeat (first | exact sH HB.out | refine sN (w := w) ?_ | with_reducible refine sG (w := w) ?_ (by assumption))) hb); (try clear hb); (try clear hb2); (try clear hk); (try clear hi); obtain ⟨hcz36_0, hcz36_1, hcz36_2, hcz36_3, hfz36_0, hfz36_1, hfz36_2, hfz36_3⟩ := cs4 BK375.out; obtain ⟨hcz37_0, hcz37_1, hcz37_2, hfz37_0, hfz37_1, hfz37_2⟩ := cs3 BK376.out) | ((with_reducible refine gate_callee (f := 59) rfl ?_); refine goesL_ (some 33) rfl rfl Try.func59 (by kernel_rfl) rfl #[.agg #[.int .i64 a0_0, .int .i64 a0_1, .int .i64 a0_2, .int .i64 a0_3], .int .i64 a1_0] rfl (by (try simp only [sM]); first | done | rfl | (simp only [sT]; rfl)) ?_; (with_reducible refine (twoslotref06_Depth.calls kj2 a0_0 a0_1 a0_2 a0_3 a1_0 t380 t381 _ A13.out).mono ?_); rintro e w38 ⟨rfl, hb⟩; refine ⟨_, rfl, ?_⟩; replace BK375 := kB BK375 hb; replace BK376 := kB BK376 hb; replace HB := Aside0.mk (below_step (by repeat (first | exact sH HB.out | refine sN (w := w) ?_ | with_reducible refine sG (w := w) ?_ (by assumption))) hb); (try clear hb); (try clear hb2); (try clear hk); (try clear hi); obtain ⟨hcz39_0, hcz39_1, hcz39_2, hcz39_3, hfz39_0, hfz39_1, hfz39_2, hfz39_3⟩ := cs4 BK375.out; obtain ⟨hcz40_0, hcz40_1, hcz40_2, hfz40_0, hfz40_1, hfz40_2⟩ := cs3 BK376.out) | ((with_reducible refine gate_callee (f := 60) rfl ?_); refine goesL_ (some 40) rfl rfl Try.func60 (by kernel_rfl) rfl #[.agg #[.int .i64 a0_0, .int .i64 a0_1, .int .i64 a0_2, .int .i64 a0_3], .int .i64 a1_0] rfl (by (try simp only [sM]); first | done | rfl | (simp only [sT]; rfl)) ?_; (with_reducible refine (twoslotref06_Leaves.calls kj2 a0_0 a0_1 a0_2 a0_3 a1_0 t382 t383 _ A14.out).mono ?_); rintro e w41 ⟨rfl, hb⟩; refine ⟨_, rfl, ?_⟩; replace BK375 := kB BK375 hb; replace BK376 := kB BK376 hb; replace HB := Aside0.mk (below_step (by repeat (first | exact sH HB.out | refine sN (w := w) ?_ | with_reducible refine sG (w := w) ?_ (by assumption))) hb); (try clear hb); (try clear hb2); (try clear hk); (try clear hi); obtain ⟨hcz42_0, hcz42_1, hcz42_2, hfz42_0, hfz42_1, hfz42_2⟩ := cs3 BK376.out))
              go_ret
              exact ⟨by first | rfl | (simp [errW_none, errW_some] <;> rfl) | (simp [*, errW_none, errW_some] <;> rfl), by repeat (first | exact sH HB.out | refine sN (w := w) ?_ | with_reducible refine sG (w := w) ?_ (by assumption))⟩
          · rw [if_neg c16] at H
            have c16b0 : (a1_1 == t380) = false := beq_eq_false_iff_ne.mpr c16
            have c16b1 : (a1_1 != t380) = true := bne_iff_ne.mpr c16
            obtain rfl := Option.some.inj H
            have hnb43 := NB375_376.out
            have hnc43 := NB376_375.out
            obtain ⟨hcz44_0, hcz44_1, hcz44_2, hcz44_3, hfz44_0, hfz44_1, hfz44_2, hfz44_3⟩ := cs4 BK375.out; obtain ⟨hcz45_0, hcz45_1, hcz45_2, hfz45_0, hfz45_1, hfz45_2⟩ := cs3 BK376.out
            go_wp2_with (first | ((with_reducible refine gate_callee (f := 58) rfl ?_); refine goesL_ (some 26) rfl rfl Try.func58 (by kernel_rfl) rfl #[.agg #[.int .i64 a0_0, .int .i64 a0_1, .int .i64 a0_2, .int .i64 a0_3], .int .i64 a1_0] rfl (by (try simp only [sM]); first | done | rfl | (simp only [sT]; rfl)) ?_; (with_reducible refine (twoslotref06_Stripes.calls kj2 a0_0 a0_1 a0_2 a0_3 a1_0 t378 t379 _ A12.out).mono ?_); rintro e w46 ⟨rfl, hb⟩; refine ⟨_, rfl, ?_⟩; replace BK375 := kB BK375 hb; replace BK376 := kB BK376 hb; replace HB := Aside0.mk (below_step (by repeat (first | exact sH HB.out | refine sN (w := w) ?_ | with_reducible refine sG (w := w) ?_ (by assumption))) hb); (try clear hb); (try clear hb2); (try clear hk); (try clear hi); obtain ⟨hcz47_0, hcz47_1, hcz47_2, hcz47_3, hfz47_0, hfz47_1, hfz47_2, hfz47_3⟩ := cs4 BK375.out; obtain ⟨hcz48_0, hcz48_1, hcz48_2, hfz48_0, hfz48_1, hfz48_2⟩ := cs3 BK376.out) | ((with_reducible refine gate_callee (f := 59) rfl ?_); refine goesL_ (some 33) rfl rfl Try.func59 (by kernel_rfl) rfl #[.agg #[.int .i64 a0_0, .int .i64 a0_1, .int .i64 a0_2, .int .i64 a0_3], .int .i64 a1_0] rfl (by (try simp only [sM]); first | done | rfl | (simp only [sT]; rfl)) ?_; (with_reducible refine (twoslotref06_Depth.calls kj2 a0_0 a0_1 a0_2 a0_3 a1_0 t380 t381 _ A13.out).mono ?_); rintro e w49 ⟨rfl, hb⟩; refine ⟨_, rfl, ?_⟩; replace BK375 := kB BK375 hb; replace BK376 := kB BK376 hb; replace HB := Aside0.mk (below_step (by repeat (first | exact sH HB.out | refine sN (w := w) ?_ | with_reducible refine sG (w := w) ?_ (by assumption))) hb); (try clear hb); (try clear hb2); (try clear hk); (try clear hi); obtain ⟨hcz50_0, hcz50_1, hcz50_2, hcz50_3, hfz50_0, hfz50_1, hfz50_2, hfz50_3⟩ := cs4 BK375.out; obtain ⟨hcz51_0, hcz51_1, hcz51_2, hfz51_0, hfz51_1, hfz51_2⟩ := cs3 BK376.out) | ((with_reducible refine gate_callee (f := 60) rfl ?_); refine goesL_ (some 40) rfl rfl Try.func60 (by kernel_rfl) rfl #[.agg #[.int .i64 a0_0, .int .i64 a0_1, .int .i64 a0_2, .int .i64 a0_3], .int .i64 a1_0] rfl (by (try simp only [sM]); first | done | rfl | (simp only [sT]; rfl)) ?_; (with_reducible refine (twoslotref06_Leaves.calls kj2 a0_0 a0_1 a0_2 a0_3 a1_0 t382 t383 _ A14.out).mono ?_); rintro e w52 ⟨rfl, hb⟩; refine ⟨_, rfl, ?_⟩; replace BK375 := kB BK375 hb; replace BK376 := kB BK376 hb; replace HB := Aside0.mk (below_step (by repeat (first | exact sH HB.out | refine sN (w := w) ?_ | with_reducible refine sG (w := w) ?_ (by assumption))) hb); (try clear hb); (try clear hb2); (try clear hk); (try clear hi); obtain ⟨hcz53_0, hcz53_1, hcz53_2, hfz53_0, hfz53_1, hfz53_2⟩ := cs3 BK376.out))
            go_ret
            exact ⟨by first | rfl | (simp [errW_none, errW_some] <;> rfl) | (simp [*, errW_none, errW_some] <;> rfl), by repeat (first | exact sH HB.out | refine sN (w := w) ?_ | with_reducible refine sG (w := w) ?_ (by assumption))⟩
        · rw [if_neg c15] at H
          have c15b0 : (t380 == 1) = false := beq_eq_false_iff_ne.mpr c15
          have c15b1 : (t380 != 1) = true := bne_iff_ne.mpr c15
          by_cases c54 : a1_1 = t380
          · rw [if_pos c54] at H
            have c54b0 : (a1_1 == t380) = true := beq_iff_eq.mpr c54
            have c54b1 : (a1_1 != t380) = false := bne_eq_false_iff_eq.mpr c54
            clear c54
            by_cases c55 : (l1_2.length : Int) = t378
            · rw [if_pos c55] at H
              have c55b0 : ((l1_2.length : Int) == t378) = true := beq_iff_eq.mpr c55
              have c55b1 : ((l1_2.length : Int) != t378) = false := bne_eq_false_iff_eq.mpr c55
              clear c55
              replace H := Option.bind_eq_some_iff.mp H
              obtain ⟨t385, A560, H⟩ := H
              try dsimp only at H
              have A56 := Aside0.mk A560
              clear A560
              obtain rfl := Option.some.inj H
              have hnb57 := NB375_376.out
              have hnc57 := NB376_375.out
              obtain ⟨hcz58_0, hcz58_1, hcz58_2, hcz58_3, hfz58_0, hfz58_1, hfz58_2, hfz58_3⟩ := cs4 BK375.out; obtain ⟨hcz59_0, hcz59_1, hcz59_2, hfz59_0, hfz59_1, hfz59_2⟩ := cs3 BK376.out
              go_wp2_with (first | ((with_reducible refine gate_callee (f := 58) rfl ?_); refine goesL_ (some 26) rfl rfl Try.func58 (by kernel_rfl) rfl #[.agg #[.int .i64 a0_0, .int .i64 a0_1, .int .i64 a0_2, .int .i64 a0_3], .int .i64 a1_0] rfl (by (try simp only [sM]); first | done | rfl | (simp only [sT]; rfl)) ?_; (with_reducible refine (twoslotref06_Stripes.calls kj2 a0_0 a0_1 a0_2 a0_3 a1_0 t378 t379 _ A12.out).mono ?_); rintro e w60 ⟨rfl, hb⟩; refine ⟨_, rfl, ?_⟩; replace BK375 := kB BK375 hb; replace BK376 := kB BK376 hb; replace HB := Aside0.mk (below_step (by repeat (first | exact sH HB.out | refine sN (w := w) ?_ | with_reducible refine sG (w := w) ?_ (by assumption))) hb); (try clear hb); (try clear hb2); (try clear hk); (try clear hi); obtain ⟨hcz61_0, hcz61_1, hcz61_2, hcz61_3, hfz61_0, hfz61_1, hfz61_2, hfz61_3⟩ := cs4 BK375.out; obtain ⟨hcz62_0, hcz62_1, hcz62_2, hfz62_0, hfz62_1, hfz62_2⟩ := cs3 BK376.out) | ((with_reducible refine gate_callee (f := 59) rfl ?_); refine goesL_ (some 33) rfl rfl Try.func59 (by kernel_rfl) rfl #[.agg #[.int .i64 a0_0, .int .i64 a0_1, .int .i64 a0_2, .int .i64 a0_3], .int .i64 a1_0] rfl (by (try simp only [sM]); first | done | rfl | (simp only [sT]; rfl)) ?_; (with_reducible refine (twoslotref06_Depth.calls kj2 a0_0 a0_1 a0_2 a0_3 a1_0 t380 t381 _ A13.out).mono ?_); rintro e w63 ⟨rfl, hb⟩; refine ⟨_, rfl, ?_⟩; replace BK375 := kB BK375 hb; replace BK376 := kB BK376 hb; replace HB := Aside0.mk (below_step (by repeat (first | exact sH HB.out | refine sN (w := w) ?_ | with_reducible refine sG (w := w) ?_ (by assumption))) hb); (try clear hb); (try clear hb2); (try clear hk); (try clear hi); obtain ⟨hcz64_0, hcz64_1, hcz64_2, hcz64_3, hfz64_0, hfz64_1, hfz64_2, hfz64_3⟩ := cs4 BK375.out; obtain ⟨hcz65_0, hcz65_1, hcz65_2, hfz65_0, hfz65_1, hfz65_2⟩ := cs3 BK376.out) | ((with_reducible refine gate_callee (f := 60) rfl ?_); refine goesL_ (some 40) rfl rfl Try.func60 (by kernel_rfl) rfl #[.agg #[.int .i64 a0_0, .int .i64 a0_1, .int .i64 a0_2, .int .i64 a0_3], .int .i64 a1_0] rfl (by (try simp only [sM]); first | done | rfl | (simp only [sT]; rfl)) ?_; (with_reducible refine (twoslotref06_Leaves.calls kj2 a0_0 a0_1 a0_2 a0_3 a1_0 t382 t383 _ A14.out).mono ?_); rintro e w66 ⟨rfl, hb⟩; refine ⟨_, rfl, ?_⟩; replace BK375 := kB BK375 hb; replace BK376 := kB BK376 hb; replace HB := Aside0.mk (below_step (by repeat (first | exact sH HB.out | refine sN (w := w) ?_ | with_reducible refine sG (w := w) ?_ (by assumption))) hb); (try clear hb); (try clear hb2); (try clear hk); (try clear hi); obtain ⟨hcz67_0, hcz67_1, hcz67_2, hfz67_0, hfz67_1, hfz67_2⟩ := cs3 BK376.out; obtain ⟨hcz68_0, hcz68_1, hcz68_2, hcz68_3, hfz68_0, hfz68_1, hfz68_2, hfz68_3⟩ := cs4 BK375.out) | (go_at_call 43; (with_reducible refine (twoslotref15_refs.calls kj2 a0_0 a0_1 a0_2 a0_3 _ _ l1_2 t385 _ ?side1 ?side2 A56.out).mono ?_); (case side1 => exact sC (Kd.C_below HR1_2.out HB.out)); (case side2 => exact HC1_2.out); rintro e w69 ⟨rfl, hb⟩; replace BK375 := kB BK375 hb; replace BK376 := kB BK376 hb; replace HB := Aside0.mk (below_step (by repeat (first | exact sH HB.out | refine sN (w := w) ?_ | with_reducible refine sG (w := w) ?_ (by assumption))) hb); (try clear hb); (try clear hb2); (try clear hk); (try clear hi)))
              go_ret
              exact ⟨by first | rfl | (simp [errW_none, errW_some] <;> rfl) | (simp [*, errW_none, errW_some] <;> rfl), by repeat (first | exact sH HB.out | refine sN (w := w) ?_ | with_reducible refine sG (w := w) ?_ (by assumption))⟩
            · rw [if_neg c55] at H
              have c55b0 : ((l1_2.length : Int) == t378) = false := beq_eq_false_iff_ne.mpr c55
              have c55b1 : ((l1_2.length : Int) != t378) = true := bne_iff_ne.mpr c55
              obtain rfl := Option.some.inj H
              have hnb70 := NB375_376.out
              have hnc70 := NB376_375.out
              obtain ⟨hcz71_0, hcz71_1, hcz71_2, hcz71_3, hfz71_0, hfz71_1, hfz71_2, hfz71_3⟩ := cs4 BK375.out; obtain ⟨hcz72_0, hcz72_1, hcz72_2, hfz72_0, hfz72_1, hfz72_2⟩ := cs3 BK376.out
              go_wp2_with (first | ((with_reducible refine gate_callee (f := 58) rfl ?_); refine goesL_ (some 26) rfl rfl Try.func58 (by kernel_rfl) rfl #[.agg #[.int .i64 a0_0, .int .i64 a0_1, .int .i64 a0_2, .int .i64 a0_3], .int .i64 a1_0] rfl (by (try simp only [sM]); first | done | rfl | (simp only [sT]; rfl)) ?_; (with_reducible refine (twoslotref06_Stripes.calls kj2 a0_0 a0_1 a0_2 a0_3 a1_0 t378 t379 _ A12.out).mono ?_); rintro e w73 ⟨rfl, hb⟩; refine ⟨_, rfl, ?_⟩; replace BK375 := kB BK375 hb; replace BK376 := kB BK376 hb; replace HB := Aside0.mk (below_step (by repeat (first | exact sH HB.out | refine sN (w := w) ?_ | with_reducible refine sG (w := w) ?_ (by assumption))) hb); (try clear hb); (try clear hb2); (try clear hk); (try clear hi); obtain ⟨hcz74_0, hcz74_1, hcz74_2, hcz74_3, hfz74_0, hfz74_1, hfz74_2, hfz74_3⟩ := cs4 BK375.out; obtain ⟨hcz75_0, hcz75_1, hcz75_2, hfz75_0, hfz75_1, hfz75_2⟩ := cs3 BK376.out) | ((with_reducible refine gate_callee (f := 59) rfl ?_); refine goesL_ (some 33) rfl rfl Try.func59 (by kernel_rfl) rfl #[.agg #[.int .i64 a0_0, .int .i64 a0_1, .int .i64 a0_2, .int .i64 a0_3], .int .i64 a1_0] rfl (by (try simp only [sM]); first | done | rfl | (simp only [sT]; rfl)) ?_; (with_reducible refine (twoslotref06_Depth.calls kj2 a0_0 a0_1 a0_2 a0_3 a1_0 t380 t381 _ A13.out).mono ?_); rintro e w76 ⟨rfl, hb⟩; refine ⟨_, rfl, ?_⟩; replace BK375 := kB BK375 hb; replace BK376 := kB BK376 hb; replace HB := Aside0.mk (below_step (by repeat (first | exact sH HB.out | refine sN (w := w) ?_ | with_reducible refine sG (w := w) ?_ (by assumption))) hb); (try clear hb); (try clear hb2); (try clear hk); (try clear hi); obtain ⟨hcz77_0, hcz77_1, hcz77_2, hcz77_3, hfz77_0, hfz77_1, hfz77_2, hfz77_3⟩ := cs4 BK375.out; obtain ⟨hcz78_0, hcz78_1, hcz78_2, hfz78_0, hfz78_1, hfz78_2⟩ := cs3 BK376.out) | ((with_reducible refine gate_callee (f := 60) rfl ?_); refine goesL_ (some 40) rfl rfl Try.func60 (by kernel_rfl) rfl #[.agg #[.int .i64 a0_0, .int .i64 a0_1, .int .i64 a0_2, .int .i64 a0_3], .int .i64 a1_0] rfl (by (try simp only [sM]); first | done | rfl | (simp only [sT]; rfl)) ?_; (with_reducible refine (twoslotref06_Leaves.calls kj2 a0_0 a0_1 a0_2 a0_3 a1_0 t382 t383 _ A14.out).mono ?_); rintro e w79 ⟨rfl, hb⟩; refine ⟨_, rfl, ?_⟩; replace BK375 := kB BK375 hb; replace BK376 := kB BK376 hb; replace HB := Aside0.mk (below_step (by repeat (first | exact sH HB.out | refine sN (w := w) ?_ | with_reducible refine sG (w := w) ?_ (by assumption))) hb); (try clear hb); (try clear hb2); (try clear hk); (try clear hi); obtain ⟨hcz80_0, hcz80_1, hcz80_2, hfz80_0, hfz80_1, hfz80_2⟩ := cs3 BK376.out))
              go_ret
              exact ⟨by first | rfl | (simp [errW_none, errW_some] <;> rfl) | (simp [*, errW_none, errW_some] <;> rfl), by repeat (first | exact sH HB.out | refine sN (w := w) ?_ | with_reducible refine sG (w := w) ?_ (by assumption))⟩
          · rw [if_neg c54] at H
            have c54b0 : (a1_1 == t380) = false := beq_eq_false_iff_ne.mpr c54
            have c54b1 : (a1_1 != t380) = true := bne_iff_ne.mpr c54
            obtain rfl := Option.some.inj H
            have hnb81 := NB375_376.out
            have hnc81 := NB376_375.out
            obtain ⟨hcz82_0, hcz82_1, hcz82_2, hcz82_3, hfz82_0, hfz82_1, hfz82_2, hfz82_3⟩ := cs4 BK375.out; obtain ⟨hcz83_0, hcz83_1, hcz83_2, hfz83_0, hfz83_1, hfz83_2⟩ := cs3 BK376.out
            go_wp2_with (first | ((with_reducible refine gate_callee (f := 58) rfl ?_); refine goesL_ (some 26) rfl rfl Try.func58 (by kernel_rfl) rfl #[.agg #[.int .i64 a0_0, .int .i64 a0_1, .int .i64 a0_2, .int .i64 a0_3], .int .i64 a1_0] rfl (by (try simp only [sM]); first | done | rfl | (simp only [sT]; rfl)) ?_; (with_reducible refine (twoslotref06_Stripes.calls kj2 a0_0 a0_1 a0_2 a0_3 a1_0 t378 t379 _ A12.out).mono ?_); rintro e w84 ⟨rfl, hb⟩; refine ⟨_, rfl, ?_⟩; replace BK375 := kB BK375 hb; replace BK376 := kB BK376 hb; replace HB := Aside0.mk (below_step (by repeat (first | exact sH HB.out | refine sN (w := w) ?_ | with_reducible refine sG (w := w) ?_ (by assumption))) hb); (try clear hb); (try clear hb2); (try clear hk); (try clear hi); obtain ⟨hcz85_0, hcz85_1, hcz85_2, hcz85_3, hfz85_0, hfz85_1, hfz85_2, hfz85_3⟩ := cs4 BK375.out; obtain ⟨hcz86_0, hcz86_1, hcz86_2, hfz86_0, hfz86_1, hfz86_2⟩ := cs3 BK376.out) | ((with_reducible refine gate_callee (f := 59) rfl ?_); refine goesL_ (some 33) rfl rfl Try.func59 (by kernel_rfl) rfl #[.agg #[.int .i64 a0_0, .int .i64 a0_1, .int .i64 a0_2, .int .i64 a0_3], .int .i64 a1_0] rfl (by (try simp only [sM]); first | done | rfl | (simp only [sT]; rfl)) ?_; (with_reducible refine (twoslotref06_Depth.calls kj2 a0_0 a0_1 a0_2 a0_3 a1_0 t380 t381 _ A13.out).mono ?_); rintro e w87 ⟨rfl, hb⟩; refine ⟨_, rfl, ?_⟩; replace BK375 := kB BK375 hb; replace BK376 := kB BK376 hb; replace HB := Aside0.mk (below_step (by repeat (first | exact sH HB.out | refine sN (w := w) ?_ | with_reducible refine sG (w := w) ?_ (by assumption))) hb); (try clear hb); (try clear hb2); (try clear hk); (try clear hi); obtain ⟨hcz88_0, hcz88_1, hcz88_2, hcz88_3, hfz88_0, hfz88_1, hfz88_2, hfz88_3⟩ := cs4 BK375.out; obtain ⟨hcz89_0, hcz89_1, hcz89_2, hfz89_0, hfz89_1, hfz89_2⟩ := cs3 BK376.out) | ((with_reducible refine gate_callee (f := 60) rfl ?_); refine goesL_ (some 40) rfl rfl Try.func60 (by kernel_rfl) rfl #[.agg #[.int .i64 a0_0, .int .i64 a0_1, .int .i64 a0_2, .int .i64 a0_3], .int .i64 a1_0] rfl (by (try simp only [sM]); first | done | rfl | (simp only [sT]; rfl)) ?_; (with_reducible refine (twoslotref06_Leaves.calls kj2 a0_0 a0_1 a0_2 a0_3 a1_0 t382 t383 _ A14.out).mono ?_); rintro e w90 ⟨rfl, hb⟩; refine ⟨_, rfl, ?_⟩; replace BK375 := kB BK375 hb; replace BK376 := kB BK376 hb; replace HB := Aside0.mk (below_step (by repeat (first | exact sH HB.out | refine sN (w := w) ?_ | with_reducible refine sG (w := w) ?_ (by assumption))) hb); (try clear hb); (try clear hb2); (try clear hk); (try clear hi); obtain ⟨hcz91_0, hcz91_1, hcz91_2, hfz91_0, hfz91_1, hfz91_2⟩ := cs3 BK376.out))
            go_ret
            exact ⟨by first | rfl | (simp [errW_none, errW_some] <;> rfl) | (simp [*, errW_none, errW_some] <;> rfl), by repeat (first | exact sH HB.out | refine sN (w := w) ?_ | with_reducible refine sG (w := w) ?_ (by assumption))⟩

def twoslotref15_Check.f (k : Nat) (a0_0 : Int) (a0_1 : Int) (a0_2 : Int) (a0_3 : Int) (a1_0 : Int) (a1_1 : Int) (l1_2 : List (S27)) : Option (Int) := (twoslotref06_May.f a0_0 a0_1 a0_2 a0_3).bind fun t388 => (if t388 = true then ((twoslotref15_May.f k a0_0 a0_1 a0_2 a0_3 a1_0 a1_1 l1_2).bind fun t389 => (if t389 = true then (some 0) else (some 150))) else (some 2))
set_option maxHeartbeats 8000000 in
set_option maxRecDepth 100000 in
theorem twoslotref15_Check.calls (k : Nat) (a0_0 : Int) (a0_1 : Int) (a0_2 : Int) (a0_3 : Int) (a1_0 : Int) (a1_1 : Int) (A1_2 : Option Addr) (c1_2 : Nat) (l1_2 : List (S27)) (r : Int) (w : World) (hr1_2 : Kd.C k27 w A1_2 l1_2.length l1_2) (hc1_2 : l1_2.length ≤ c1_2) (h : twoslotref15_Check.f k a0_0 a0_1 a0_2 a0_3 a1_0 a1_1 l1_2 = some r) :
    Calls Try.prog 19 #[.agg #[.int .i64 a0_0, .int .i64 a0_1, .int .i64 a0_2, .int .i64 a0_3], .agg #[.int .i64 a1_0, .int .i64 a1_1, .slice A1_2 l1_2.length c1_2]] w fun e w' => e = .returned (.int .i64 r) ∧ Below w.heap.size w w' := by
  have hu24 := Try.underlying24
  have hu35 := Try.underlying35
  have HR1_2 := Aside0.mk hr1_2
  have HC1_2 := Aside0.mk hc1_2
  clear hr1_2 hc1_2
  have HB := Aside0.mk (Below.refl w.heap.size w)
  have H : ((twoslotref06_May.f a0_0 a0_1 a0_2 a0_3).bind fun t388 => (if t388 = true then ((twoslotref15_May.f k a0_0 a0_1 a0_2 a0_3 a1_0 a1_1 l1_2).bind fun t389 => (if t389 = true then (some 0) else (some 150))) else (some 2))) = some r := h
  clear h
  replace H := Option.bind_eq_some_iff.mp H
  obtain ⟨t388, A30, H⟩ := H
  try dsimp only at H
  have A3 := Aside0.mk A30
  clear A30
  by_cases c4 : t388 = true
  · subst c4
    have H1 : ((twoslotref15_May.f k a0_0 a0_1 a0_2 a0_3 a1_0 a1_1 l1_2).bind fun t389 => (if t389 = true then (some 0) else (some 150))) = some r := by rw [if_pos rfl] at H; exact H
    clear H
    have H := H1
    clear H1
    replace H := Option.bind_eq_some_iff.mp H
    obtain ⟨t389, A50, H⟩ := H
    try dsimp only at H
    have A5 := Aside0.mk A50
    clear A50
    by_cases c6 : t389 = true
    · subst c6
      have H1 : (some 0) = some r := by rw [if_pos rfl] at H; exact H
      clear H
      have H := H1
      clear H1
      obtain rfl := Option.some.inj H
      go_enter Try.func19, Try.ntmps19
      go_wp2_with (first | ((with_reducible refine gate_dst (N := 2) rfl ?_); refine box_event rfl (N := 2) rfl (cs := #[.int .i64 a0_0, .int .i64 a0_1, .int .i64 a0_2, .int .i64 a0_3]) (t := 24) (by go_simp; try rfl) ?_; intro gb386 hg w7 hbox hb; have BK386 := Aside0.mk (hbox); have GW386 := Aside0.mk ((by rw [hg]; exact (sZ HB) : w.heap.size ≤ gb386)); have GE386 := Aside0.mk ((by rw [hg]; exact (sZ HB) : w.heap.size ≤ gb386)); replace HB := kH HB hb; clear hb hbox hg) | ((with_reducible refine gate_dst (N := 3) rfl ?_); refine box_event rfl (N := 3) rfl (cs := #[.int .i64 a1_0, .int .i64 a1_1, .slice A1_2 l1_2.length c1_2]) (t := 35) (by go_simp; try rfl) ?_; intro gb387 hg w8 hbox hb; have BK387 := Aside0.mk (hbox); have GW387 := Aside0.mk ((by rw [hg]; exact (below_size (by repeat (first | exact sH HB.out | refine sN (w := w) ?_ | with_reducible refine sG (w := w) ?_ (by assumption)))) : w.heap.size ≤ gb387)); have GE387 := Aside0.mk ((by rw [hg]; exact (below_size (by repeat (first | exact sH HB.out | refine sN (w := w) ?_ | with_reducible refine sG (w := w) ?_ (by assumption)))) : w.heap.size ≤ gb387)); replace HB := Aside0.mk (below_step (by repeat (first | exact sH HB.out | refine sN (w := w) ?_ | with_reducible refine sG (w := w) ?_ (by assumption))) hb); have NB386_387 := Aside0.mk ((by rw [hg]; exact Nat.ne_of_lt (blk_lt (g := gb386) (o := .cells #[.int .i64 a0_0, .int .i64 a0_1, .int .i64 a0_2, .int .i64 a0_3] 24 (0, 0)) (by first | exact BK386.out | (refine sO ?_; exact BK386.out))) : gb386 ≠ gb387)); have NB387_386 := Aside0.mk ((by rw [hg]; exact Nat.ne_of_gt (blk_lt (g := gb386) (o := .cells #[.int .i64 a0_0, .int .i64 a0_1, .int .i64 a0_2, .int .i64 a0_3] 24 (0, 0)) (by first | exact BK386.out | (refine sO ?_; exact BK386.out))) : gb387 ≠ gb386)); replace BK386 := kB BK386 hb; clear hb hbox hg; have hnb9 := NB386_387.out; have hnc9 := NB387_386.out; obtain ⟨hcz10_0, hcz10_1, hcz10_2, hcz10_3, hfz10_0, hfz10_1, hfz10_2, hfz10_3⟩ := cs4 BK386.out) | ((with_reducible refine gate_callee (f := 41) rfl ?_); refine goesL_ (some 6) rfl rfl Try.func41 (by kernel_rfl) rfl #[.agg #[.int .i64 a0_0, .int .i64 a0_1, .int .i64 a0_2, .int .i64 a0_3]] rfl (by (try simp only [sM]); first | done | rfl | (simp only [sT]; rfl)) ?_; (with_reducible refine (twoslotref06_May.calls a0_0 a0_1 a0_2 a0_3 true _ A3.out).mono ?_); rintro e w11 ⟨rfl, hb⟩; refine ⟨_, rfl, ?_⟩; replace BK386 := kB BK386 hb; replace BK387 := kB BK387 hb; replace HB := Aside0.mk (below_step (by repeat (first | exact sH HB.out | refine sN (w := w) ?_ | with_reducible refine sG (w := w) ?_ (by assumption))) hb); (try clear hb); (try clear hb2); (try clear hk); (try clear hi); obtain ⟨hcz12_0, hcz12_1, hcz12_2, hcz12_3, hfz12_0, hfz12_1, hfz12_2, hfz12_3⟩ := cs4 BK386.out; obtain ⟨hcz13_0, hcz13_1, hcz13_2, hfz13_0, hfz13_1, hfz13_2⟩ := cs3 BK387.out) | ((with_reducible refine gate_callee (f := 46) rfl ?_); refine goesL_ (some 10) rfl rfl Try.func46 (by kernel_rfl) rfl #[.agg #[.int .i64 a0_0, .int .i64 a0_1, .int .i64 a0_2, .int .i64 a0_3], .agg #[.int .i64 a1_0, .int .i64 a1_1, .slice A1_2 l1_2.length c1_2]] rfl (by (try simp only [sM]); first | done | rfl | (simp only [sT]; rfl)) ?_; (with_reducible refine (twoslotref15_May.calls k a0_0 a0_1 a0_2 a0_3 a1_0 a1_1 _ _ l1_2 true _ ?side1 ?side2 A5.out).mono ?_); (case side1 => exact sC (Kd.C_below HR1_2.out HB.out)); (case side2 => exact HC1_2.out); rintro e w14 ⟨rfl, hb⟩; refine ⟨_, rfl, ?_⟩; replace BK386 := kB BK386 hb; replace BK387 := kB BK387 hb; replace HB := Aside0.mk (below_step (by repeat (first | exact sH HB.out | refine sN (w := w) ?_ | with_reducible refine sG (w := w) ?_ (by assumption))) hb); (try clear hb); (try clear hb2); (try clear hk); (try clear hi)))
      go_ret
      exact ⟨by first | rfl | (simp [errW_none, errW_some] <;> rfl) | (simp [*, errW_none, errW_some] <;> rfl), by repeat (first | exact sH HB.out | refine sN (w := w) ?_ | with_reducible refine sG (w := w) ?_ (by assumption))⟩
    · replace c6 := Bool.eq_false_iff.mpr c6
      subst c6
      have H1 : (some 150) = some r := by rw [if_neg (show ¬ (false = true) by decide)] at H; exact H
      clear H
      have H := H1
      clear H1
      obtain rfl := Option.some.inj H
      go_enter Try.func19, Try.ntmps19
      go_wp2_with (first | ((with_reducible refine gate_dst (N := 2) rfl ?_); refine box_event rfl (N := 2) rfl (cs := #[.int .i64 a0_0, .int .i64 a0_1, .int .i64 a0_2, .int .i64 a0_3]) (t := 24) (by go_simp; try rfl) ?_; intro gb386 hg w15 hbox hb; have BK386 := Aside0.mk (hbox); have GW386 := Aside0.mk ((by rw [hg]; exact (sZ HB) : w.heap.size ≤ gb386)); have GE386 := Aside0.mk ((by rw [hg]; exact (sZ HB) : w.heap.size ≤ gb386)); replace HB := kH HB hb; clear hb hbox hg) | ((with_reducible refine gate_dst (N := 3) rfl ?_); refine box_event rfl (N := 3) rfl (cs := #[.int .i64 a1_0, .int .i64 a1_1, .slice A1_2 l1_2.length c1_2]) (t := 35) (by go_simp; try rfl) ?_; intro gb387 hg w16 hbox hb; have BK387 := Aside0.mk (hbox); have GW387 := Aside0.mk ((by rw [hg]; exact (below_size (by repeat (first | exact sH HB.out | refine sN (w := w) ?_ | with_reducible refine sG (w := w) ?_ (by assumption)))) : w.heap.size ≤ gb387)); have GE387 := Aside0.mk ((by rw [hg]; exact (below_size (by repeat (first | exact sH HB.out | refine sN (w := w) ?_ | with_reducible refine sG (w := w) ?_ (by assumption)))) : w.heap.size ≤ gb387)); replace HB := Aside0.mk (below_step (by repeat (first | exact sH HB.out | refine sN (w := w) ?_ | with_reducible refine sG (w := w) ?_ (by assumption))) hb); have NB386_387 := Aside0.mk ((by rw [hg]; exact Nat.ne_of_lt (blk_lt (g := gb386) (o := .cells #[.int .i64 a0_0, .int .i64 a0_1, .int .i64 a0_2, .int .i64 a0_3] 24 (0, 0)) (by first | exact BK386.out | (refine sO ?_; exact BK386.out))) : gb386 ≠ gb387)); have NB387_386 := Aside0.mk ((by rw [hg]; exact Nat.ne_of_gt (blk_lt (g := gb386) (o := .cells #[.int .i64 a0_0, .int .i64 a0_1, .int .i64 a0_2, .int .i64 a0_3] 24 (0, 0)) (by first | exact BK386.out | (refine sO ?_; exact BK386.out))) : gb387 ≠ gb386)); replace BK386 := kB BK386 hb; clear hb hbox hg; have hnb17 := NB386_387.out; have hnc17 := NB387_386.out; obtain ⟨hcz18_0, hcz18_1, hcz18_2, hcz18_3, hfz18_0, hfz18_1, hfz18_2, hfz18_3⟩ := cs4 BK386.out) | ((with_reducible refine gate_callee (f := 41) rfl ?_); refine goesL_ (some 6) rfl rfl Try.func41 (by kernel_rfl) rfl #[.agg #[.int .i64 a0_0, .int .i64 a0_1, .int .i64 a0_2, .int .i64 a0_3]] rfl (by (try simp only [sM]); first | done | rfl | (simp only [sT]; rfl)) ?_; (with_reducible refine (twoslotref06_May.calls a0_0 a0_1 a0_2 a0_3 true _ A3.out).mono ?_); rintro e w19 ⟨rfl, hb⟩; refine ⟨_, rfl, ?_⟩; replace BK386 := kB BK386 hb; replace BK387 := kB BK387 hb; replace HB := Aside0.mk (below_step (by repeat (first | exact sH HB.out | refine sN (w := w) ?_ | with_reducible refine sG (w := w) ?_ (by assumption))) hb); (try clear hb); (try clear hb2); (try clear hk); (try clear hi); obtain ⟨hcz20_0, hcz20_1, hcz20_2, hcz20_3, hfz20_0, hfz20_1, hfz20_2, hfz20_3⟩ := cs4 BK386.out; obtain ⟨hcz21_0, hcz21_1, hcz21_2, hfz21_0, hfz21_1, hfz21_2⟩ := cs3 BK387.out) | ((with_reducible refine gate_callee (f := 46) rfl ?_); refine goesL_ (some 10) rfl rfl Try.func46 (by kernel_rfl) rfl #[.agg #[.int .i64 a0_0, .int .i64 a0_1, .int .i64 a0_2, .int .i64 a0_3], .agg #[.int .i64 a1_0, .int .i64 a1_1, .slice A1_2 l1_2.length c1_2]] rfl (by (try simp only [sM]); first | done | rfl | (simp only [sT]; rfl)) ?_; (with_reducible refine (twoslotref15_May.calls k a0_0 a0_1 a0_2 a0_3 a1_0 a1_1 _ _ l1_2 false _ ?side1 ?side2 A5.out).mono ?_); (case side1 => exact sC (Kd.C_below HR1_2.out HB.out)); (case side2 => exact HC1_2.out); rintro e w22 ⟨rfl, hb⟩; refine ⟨_, rfl, ?_⟩; replace BK386 := kB BK386 hb; replace BK387 := kB BK387 hb; replace HB := Aside0.mk (below_step (by repeat (first | exact sH HB.out | refine sN (w := w) ?_ | with_reducible refine sG (w := w) ?_ (by assumption))) hb); (try clear hb); (try clear hb2); (try clear hk); (try clear hi)))
      go_ret
      exact ⟨by first | rfl | (simp [errW_none, errW_some] <;> rfl) | (simp [*, errW_none, errW_some] <;> rfl), by repeat (first | exact sH HB.out | refine sN (w := w) ?_ | with_reducible refine sG (w := w) ?_ (by assumption))⟩
  · replace c4 := Bool.eq_false_iff.mpr c4
    subst c4
    have H1 : (some 2) = some r := by rw [if_neg (show ¬ (false = true) by decide)] at H; exact H
    clear H
    have H := H1
    clear H1
    obtain rfl := Option.some.inj H
    go_enter Try.func19, Try.ntmps19
    go_wp2_with (first | ((with_reducible refine gate_dst (N := 2) rfl ?_); refine box_event rfl (N := 2) rfl (cs := #[.int .i64 a0_0, .int .i64 a0_1, .int .i64 a0_2, .int .i64 a0_3]) (t := 24) (by go_simp; try rfl) ?_; intro gb386 hg w23 hbox hb; have BK386 := Aside0.mk (hbox); have GW386 := Aside0.mk ((by rw [hg]; exact (sZ HB) : w.heap.size ≤ gb386)); have GE386 := Aside0.mk ((by rw [hg]; exact (sZ HB) : w.heap.size ≤ gb386)); replace HB := kH HB hb; clear hb hbox hg) | ((with_reducible refine gate_dst (N := 3) rfl ?_); refine box_event rfl (N := 3) rfl (cs := #[.int .i64 a1_0, .int .i64 a1_1, .slice A1_2 l1_2.length c1_2]) (t := 35) (by go_simp; try rfl) ?_; intro gb387 hg w24 hbox hb; have BK387 := Aside0.mk (hbox); have GW387 := Aside0.mk ((by rw [hg]; exact (below_size (by repeat (first | exact sH HB.out | refine sN (w := w) ?_ | with_reducible refine sG (w := w) ?_ (by assumption)))) : w.heap.size ≤ gb387)); have GE387 := Aside0.mk ((by rw [hg]; exact (below_size (by repeat (first | exact sH HB.out | refine sN (w := w) ?_ | with_reducible refine sG (w := w) ?_ (by assumption)))) : w.heap.size ≤ gb387)); replace HB := Aside0.mk (below_step (by repeat (first | exact sH HB.out | refine sN (w := w) ?_ | with_reducible refine sG (w := w) ?_ (by assumption))) hb); have NB386_387 := Aside0.mk ((by rw [hg]; exact Nat.ne_of_lt (blk_lt (g := gb386) (o := .cells #[.int .i64 a0_0, .int .i64 a0_1, .int .i64 a0_2, .int .i64 a0_3] 24 (0, 0)) (by first | exact BK386.out | (refine sO ?_; exact BK386.out))) : gb386 ≠ gb387)); have NB387_386 := Aside0.mk ((by rw [hg]; exact Nat.ne_of_gt (blk_lt (g := gb386) (o := .cells #[.int .i64 a0_0, .int .i64 a0_1, .int .i64 a0_2, .int .i64 a0_3] 24 (0, 0)) (by first | exact BK386.out | (refine sO ?_; exact BK386.out))) : gb387 ≠ gb386)); replace BK386 := kB BK386 hb; clear hb hbox hg; have hnb25 := NB386_387.out; have hnc25 := NB387_386.out; obtain ⟨hcz26_0, hcz26_1, hcz26_2, hcz26_3, hfz26_0, hfz26_1, hfz26_2, hfz26_3⟩ := cs4 BK386.out) | ((with_reducible refine gate_callee (f := 41) rfl ?_); refine goesL_ (some 6) rfl rfl Try.func41 (by kernel_rfl) rfl #[.agg #[.int .i64 a0_0, .int .i64 a0_1, .int .i64 a0_2, .int .i64 a0_3]] rfl (by (try simp only [sM]); first | done | rfl | (simp only [sT]; rfl)) ?_; (with_reducible refine (twoslotref06_May.calls a0_0 a0_1 a0_2 a0_3 false _ A3.out).mono ?_); rintro e w27 ⟨rfl, hb⟩; refine ⟨_, rfl, ?_⟩; replace BK386 := kB BK386 hb; replace BK387 := kB BK387 hb; replace HB := Aside0.mk (below_step (by repeat (first | exact sH HB.out | refine sN (w := w) ?_ | with_reducible refine sG (w := w) ?_ (by assumption))) hb); (try clear hb); (try clear hb2); (try clear hk); (try clear hi)))
    go_ret
    exact ⟨by first | rfl | (simp [errW_none, errW_some] <;> rfl) | (simp [*, errW_none, errW_some] <;> rfl), by repeat (first | exact sH HB.out | refine sN (w := w) ?_ | with_reducible refine sG (w := w) ?_ (by assumption))⟩

set_option maxHeartbeats 8000000 in
set_option maxRecDepth 100000 in
theorem twoslotref15_wide.main (a0_0 a0_1 a0_2 a0_3 n : Int) (A1 : Option Addr) (c1 : Nat) (l1 : List Int) (w : World) (hr1 : Kd.C (Kd.int .u8) w A1 l1.length l1) (hc1 : l1.length ≤ c1) (hv : twoslotref06_W.f a0_0 a0_1 a0_2 a0_3 = some n) (h0 : 0 ≤ n) (h1 : n ≤ 1000) :
    Calls Try.prog 44 #[.agg #[.int .i64 a0_0, .int .i64 a0_1, .int .i64 a0_2, .int .i64 a0_3], .slice A1 l1.length c1] w fun e w' => ∃ v0_ : Value, e = .returned (v0_) ∧ Kd.R (Kd.int .u8) 5 w' w.heap.size (fun _ => True) v0_ (wideL n.toNat l1) ∧ Below w.heap.size w w' := by
  have hu := Try.underlying24
  have HB := Aside0.mk (Below.refl w.heap.size w)
  have HV := Aside0.mk hv
  have NZ := Aside0.mk h0
  have NB := Aside0.mk (show n.toNat ≤ 1000 by omega)
  have HR := Aside0.mk hr1
  clear hv h0 h1 hr1
  go_enter Try.func44, Try.ntmps44
  go_wp2_with (first | ((with_reducible refine gate_dst (N := 2) rfl ?_); refine box_event rfl (N := 2) rfl (cs := #[.int .i64 a0_0, .int .i64 a0_1, .int .i64 a0_2, .int .i64 a0_3]) (t := 24) (by go_simp; try rfl) ?_; intro g1 hg w1 hbox hb; have n2_ := Aside0.mk ((by rw [hg]; exact (sZ HB)) : w.heap.size ≤ g1); have n0_ := Aside0.mk (below_step (sH HB.out) hb); clear HB; have HB := n0_; clear n0_; have BKg1 := Aside0.mk hbox; have GEg1 := n2_; clear n2_ hb hbox hg; obtain ⟨hcg1_0, hcg1_1, hcg1_2, hcg1_3, -, -, -, -⟩ := cs4 BKg1.out) | (go_at_call 47; (with_reducible refine (twoslotref06_W.calls a0_0 a0_1 a0_2 a0_3 n _ HV.out).mono ?_); rintro e w2 ⟨rfl, hb⟩; replace HB := kH HB hb; have n1_ := Aside0.mk (blk_below BKg1.out hb); clear BKg1; have BKg1 := n1_; clear n1_; clear hb; obtain ⟨hcg1_0, hcg1_1, hcg1_2, hcg1_3, -, -, -, -⟩ := cs4 BKg1.out) | ((with_reducible refine gate_dst (N := 8) rfl ?_); refine Kd.R_make (Kd.int .u8) _ 5 rfl (N := 8) rfl 29 _ _ rfl n rfl rfl Try.underlying29 (.int .u8 0) 1 info5 rfl (by decide) (by omega) 0 (ok := fun _ => True) (okp := fun _ => True) rfl (fun _ hk => hk) trivial NZ.out (by have := NB.out; omega) (Below.refl _ _) (Nat.le_refl _) ?_; intro v w5 ho hb hg_ hnew_; clear hg_ hnew_; have HO := Aside0.mk (Kd.R_lower ho HB.out.size); have n0_ := Aside0.mk (below_step HB.out hb); have BK2 := Aside0.mk (blk_below BKg1.out hb); clear HB BKg1; have HB := n0_; have BKg1 := BK2; clear n0_ BK2 hb ho) | (refine Kd.R_copy (enc := Value.int .u8) (h1 := fun _ => rfl) (0 : Int) (w0 := w) w.heap.size rfl (.tmp 9) (.tmp 10) 29 29 5 rfl Try.underlying29 (by kernel_rfl) v _ l1 A1 l1.length c1 (fun _ => True) rfl rfl HO.out (Kd.C_below HR.out (below_all HB.out)) HB.out HB.out.size ?_; intro w6 ho hb hg; clear hg HB HO; have HB := Aside0.mk hb; have HO := Aside0.mk ho; clear ho hb))
  go_ret
  refine ⟨_, rfl, ?_, HB.out⟩
  have h := HO.out
  rw [List.length_replicate] at h
  exact h
def twoslotref15_wide.f (a0_0 : Int) (a0_1 : Int) (a0_2 : Int) (a0_3 : Int) (l1 : List Int) : Option (List Int) := if okP a0_0 a0_1 a0_2 a0_3 = true then some (wideL (a0_0 * a0_2).toNat l1) else none
theorem twoslotref15_wide.calls (a0_0 : Int) (a0_1 : Int) (a0_2 : Int) (a0_3 : Int) (A1 : Option Addr) (c1 : Nat) (l1 : List Int) (r : List Int) (w : World) (hr1 : Kd.C (Kd.int .u8) w A1 l1.length l1) (hc1 : l1.length ≤ c1) (h : twoslotref15_wide.f a0_0 a0_1 a0_2 a0_3 l1 = some r) :
    Calls Try.prog 44 #[.agg #[.int .i64 a0_0, .int .i64 a0_1, .int .i64 a0_2, .int .i64 a0_3], .slice A1 l1.length c1] w fun e w' => ∃ v0_ : Value, e = .returned (v0_) ∧ Kd.R (Kd.int .u8) 5 w' w.heap.size (fun _ => True) v0_ r ∧ Below w.heap.size w w' := by
  unfold twoslotref15_wide.f at h
  by_cases hk : okP a0_0 a0_1 a0_2 a0_3 = true
  · rw [if_pos hk] at h
    obtain rfl : wideL (a0_0 * a0_2).toNat l1 = r := by simpa using h
    obtain ⟨o1, o2, o3, o4, o5, o6, o7, o8, o9⟩ := okP_iff.mp hk
    obtain ⟨ml, mr⟩ := mul_small o1 o2 o5 o6
    refine twoslotref15_wide.main _ _ _ _ _ _ _ _ _ hr1 hc1 (show twoslotref06_W.f a0_0 a0_1 a0_2 a0_3 = some (a0_0 * a0_2) from ?_) (by omega) (by omega)
    unfold twoslotref06_W.f
    rw [show wrap64 (a0_0 * a0_2) = a0_0 * a0_2 from by unfold wrap64; omega]
  · rw [if_neg hk] at h
    cases h

def twoslotref15_number.l0 : Nat → Int → List Int → Int → Option (List Int)
  | 0, _, _, _ => none
  | k + 1, x0, x5, x6 => if x6 ≥ 0 then (if 0 ≤ x6 then (if x6 < (x5.length : Int) then (twoslotref15_number.l0 k (wrap64 (Int.tdiv x0 256)) (x5.set (x6 : Int).toNat ((Int.tmod x0 256) % 256)) (wrap64 (x6 - 1))) else (none)) else (none)) else (some x5)
def twoslotref15_number.f (k : Nat) (a0 : Int) (a1 : Int) : Option (List Int) := if 0 ≤ a1 then (if (a1 : Int).toNat ≤ 281474976710656 then (twoslotref15_number.l0 k a0 (List.replicate (a1 : Int).toNat 0) (wrap64 (a1 - 1))) else (none)) else (none)
set_option maxHeartbeats 8000000 in
set_option maxRecDepth 100000 in
theorem twoslotref15_number.calls (k : Nat) (a0 : Int) (a1 : Int) (r : List Int) (w : World) (h : twoslotref15_number.f k a0 a1 = some r) :
    Calls Try.prog 55 #[.int .i64 a0, .int .i64 a1] w fun e w' => ∃ v0_ : Value, e = .returned (v0_) ∧ Kd.R (Kd.int .u8) 5 w' w.heap.size (fun _ => True) v0_ r ∧ Below w.heap.size w w' := by
  have HB := Aside0.mk (Below.refl w.heap.size w)
  have H : (if 0 ≤ a1 then (if (a1 : Int).toNat ≤ 281474976710656 then (twoslotref15_number.l0 k a0 (List.replicate (a1 : Int).toNat 0) (wrap64 (a1 - 1))) else (none)) else (none)) = some r := h
  clear h
  by_cases c3 : 0 ≤ a1
  · rw [if_pos c3] at H
    have c3b0 := eq_true c3
    have c3b1 : decide (0 ≤ a1) = true := decide_eq_true c3
    clear c3
    by_cases c4 : (a1 : Int).toNat ≤ 281474976710656
    · rw [if_pos c4] at H
      have c4b0 := eq_true c4
      have c4b1 : decide ((a1 : Int).toNat ≤ 281474976710656) = true := decide_eq_true c4
      clear c4
      obtain ⟨y390, hy390⟩ : ∃ y_ : List Int, y_ = (List.replicate (a1 : Int).toNat 0) := ⟨_, rfl⟩
      replace H : (twoslotref15_number.l0 k a0 y390 (wrap64 (a1 - 1))) = some r := by first | (rw [hy390]; with_reducible exact H) | (have H2_ := (Option.bind_some _ _).symm.trans H; rw [hy390]; with_reducible exact H2_) | (have H2_ := (Option.bind_some _ _).symm.trans H; with_reducible exact H2_) | with_reducible exact H | (rw [hy390]; exact H) | exact H
      have Ny390 := Aside0.mk hy390
      clear hy390
      have H' := Aside0.mk H
      clear H
      go_enter Try.func55, Try.ntmps55
      go_wp2_with (first | ((with_reducible refine gate_dst (N := 8) rfl ?_); refine Kd.R_make (Kd.int .u8) _ 5 rfl (N := 8) rfl 29 _ _ rfl a1 rfl rfl Try.underlying29 (.int .u8 0) 1 info5 rfl (by decide) (by omega) 0 (ok := fun _ => True) (okp := fun _ => True) rfl (fun _ hk => hk) trivial (of_decide_eq_true (by first | (with_reducible assumption) | assumption)) (Nat.le_trans (Nat.mul_le_mul_right _ (of_decide_eq_true (by first | (with_reducible assumption) | assumption) : a1.toNat ≤ 281474976710656)) (by omega)) (Below.refl _ _) (Nat.le_refl _) ?_; intro v391 w5 ho6 hb hg_ hnew_; clear hg_ hnew_; (first | rw [← Ny390.out] at ho6 | (simp only [Int.reduceToNat] at ho6; rw [← Ny390.out] at ho6)); have HO392 := Aside0.mk (Kd.R_lower ho6 (sZ HB)); replace HB := kH HB hb; clear hb ho6))
      go_loopg [0, 6] k (fun kq v0 v6 w' => ∃ (x0_1 : Int) (x5_1 : List Int) (x6_1 : Int), v0 = .int .i64 x0_1 ∧ v6 = .int .i64 x6_1 ∧ Aside0 (twoslotref15_number.l0 kq x0_1 x5_1 x6_1 = some r) ∧ Aside0 (kq ≤ k) ∧ Aside0 (Kd.R (Kd.int .u8) 5 w' w.heap.size (fun _ => True) v391 x5_1) ∧ Aside0 (Below w.heap.size w w'))
      case atStart => exact ⟨(a0), (y390), (wrap64 (a1 - 1)), (by first | rfl | (simp; done) | (simp [*]; done)), (by first | rfl | (simp; done) | (simp [*]; done)), H', ⟨Nat.le_refl _⟩, ⟨by (with_reducible repeat (first | apply Kd.R_alloc | apply Kd.R_drewN | apply Kd.R_drew)); exact HO392.out⟩, ⟨by exact sH HB.out⟩⟩
      case round =>
        clear H'
        try clear p2
        try clear c3
        try clear c3b0
        try clear c3b1
        try clear c4
        try clear c4b0
        try clear c4b1
        try clear c5
        try clear p6
        obtain ⟨x0_1, x5_1, x6_1, rfl, rfl, HA, HK1, HO_5, HB⟩ := hrel
        cases gk with
        | zero => exact absurd HA.out (by simp [twoslotref15_number.l0])
        | succ k1 =>
          have H := HA.out
          clear HA
          simp only [twoslotref15_number.l0] at H
          by_cases c7 : x6_1 ≥ 0
          · rw [if_pos c7] at H
            have c7b0 : decide (0 ≤ x6_1) = true := decide_eq_true c7
            clear c7
            by_cases c8 : 0 ≤ x6_1
            · rw [if_pos c8] at H
              have c8b0 : decide (0 ≤ x6_1) = true := decide_eq_true c8
              clear c8
              by_cases c9 : x6_1 < (x5_1.length : Int)
              · rw [if_pos c9] at H
                have c9b0 : decide (x6_1 < (x5_1.length : Int)) = true := decide_eq_true c9
                clear c9
                obtain ⟨y393, hy393⟩ : ∃ y_ : List Int, y_ = (x5_1.set (x6_1 : Int).toNat ((Int.tmod x0_1 256) % 256)) := ⟨_, rfl⟩
                replace H : (twoslotref15_number.l0 k1 (wrap64 (Int.tdiv x0_1 256)) y393 (wrap64 (x6_1 - 1))) = some r := by first | (rw [hy393]; with_reducible exact H) | (have H2_ := (Option.bind_some _ _).symm.trans H; rw [hy393]; with_reducible exact H2_) | (have H2_ := (Option.bind_some _ _).symm.trans H; with_reducible exact H2_) | with_reducible exact H | (rw [hy393]; exact H) | exact H
                have Ny393 := Aside0.mk hy393
                clear hy393
                have H' := Aside0.mk H
                clear H
                have p10 : 0 ≤ (x6_1 : Int) := of_decide_eq_true (by first | (with_reducible assumption) | assumption)
                have q10 : (x6_1 : Int) < ((x5_1.length : Int) : Int) := of_decide_eq_true (by first | (with_reducible assumption) | assumption)
                obtain ⟨go10, co10, eo10, gb10, gl10, cl10, HG10⟩ := Kd.R_form HO_5.out (by omega)
                (first | cases eo10 | (injection eo10 with ea_ en_ ec_; (first | subst ea_ | (injection ea_ with ea_; subst ea_)); subst ec_; clear en_))
                have GB10 := Aside0.mk gb10
                have GG10 := Aside0.mk HG10
                clear gb10 gl10 HG10
                obtain ⟨hx10_0, hf10_0⟩ := Kd.R_celln 0 HO_5.out (x6_1 : Int) p10 q10
                replace p10 := eq_true p10
                replace q10 := eq_true q10
                have HP11 := Kd.R_putg HO_5.out (x6_1 : Int) ((Int.tmod x0_1 256) % 256)
                go_wp2_with (first | ((with_reducible refine gate_store (t := 5) (p := 20) rfl ?_); refine store_event (t := 5) (p := 20) (v := ?vo_w12) (w1 := (wr.setCell ⟨go10, (x6_1 : Int).toNat, none⟩ (.int .u8 ((Int.tmod x0_1 256) % 256)))) ?hg ?ho ?hn ?hr ?_; (case ho => rfl); (case hg => rfl); (case hn => rfl); (case hr => first | (go_simp; done) | (go_simp; rfl)); intro w12 hw; have hg : wr.grownBy w12 (some go10) := (by rw [hw]; exact HP11.2); have hp_ : Kd.R (Kd.int .u8) 5 w12 w.heap.size (fun _ => True) (.slice (some ⟨go10, 0, none⟩) x5_1.length co10) y393 := (by rw [hw, Ny393.out]; exact HP11.1); clear HP11; replace HO_5 := Aside0.mk (hp_); replace HB := Aside0.mk ((by rw [hw]; exact below_set (HB.out) GB10.out : Below w.heap.size w w12)); clear hg hw hp_))
                go_roundg k1
                case measure => have := HK1.out; omega
                case rel => exact ⟨(wrap64 (Int.tdiv x0_1 256)), (y393), (wrap64 (x6_1 - 1)), (by first | rfl | (simp; done) | (simp [*]; done)), (by first | rfl | (simp; done) | (simp [*]; done)), H', ⟨by have := HK1.out; omega⟩, ⟨by (with_reducible repeat (first | apply Kd.R_alloc | apply Kd.R_drewN | apply Kd.R_drew)); exact HO_5.out⟩, ⟨by exact sH HB.out⟩⟩
              · rw [if_neg c9] at H
                exact absurd H (by simp)
            · rw [if_neg c8] at H
              exact absurd H (by simp)
          · rw [if_neg c7] at H
            have c7b0 : decide (0 ≤ x6_1) = false := decide_eq_false c7
            clear c7
            obtain rfl := Option.some.inj H
            go_wp2
            go_ret
            exact ⟨_, by first | rfl | (simp [errW_none, errW_some] <;> rfl) | (simp [*, errW_none, errW_some] <;> rfl), by (with_reducible repeat (first | apply Kd.R_alloc | apply Kd.R_drewN | apply Kd.R_drew)); exact HO_5.out, by exact sH HB.out⟩
    · rw [if_neg c4] at H
      exact absurd H (by simp)
  · rw [if_neg c3] at H
    exact absurd H (by simp)

def twoslotref15_told.l0 : Nat → List (S27) → List Int → Int → Option (List Int)
  | 0, _, _, _ => none
  | k + 1, x0, x3, x4 => if x4 < (x0.length : Int) then (if 0 ≤ x4 then ((twoslotref15_number.f k ((rd_T27 x0 x4).f0) 2).bind fun t395 => (if x3.length + t395.length < 140737488355328 then ((some (x3 ++ t395 : List Int)).bind fun y398 => ((twoslotref15_number.f k ((rd_T27 x0 x4).f1) 4).bind fun t402 => (if y398.length + t402.length < 140737488355328 then (twoslotref15_told.l0 k x0 (y398 ++ t402) (wrap64 (x4 + 1))) else (none)))) else (none))) else (none)) else (some x3)
def twoslotref15_told.f (k : Nat) (l0 : List (S27)) : Option (List Int) := twoslotref15_told.l0 k l0 ([] : List Int) 0
set_option maxHeartbeats 8000000 in
set_option maxRecDepth 100000 in
theorem twoslotref15_told.calls (k : Nat) (A0 : Option Addr) (c0 : Nat) (l0 : List (S27)) (r : List Int) (w : World) (hr0 : Kd.C k27 w A0 l0.length l0) (hc0 : l0.length ≤ c0) (h : twoslotref15_told.f k l0 = some r) :
    Calls Try.prog 45 #[.slice A0 l0.length c0] w fun e w' => ∃ v0_ : Value, e = .returned (v0_) ∧ Kd.R (Kd.int .u8) 5 w' w.heap.size (fun _ => True) v0_ r ∧ Below w.heap.size w w' := by
  have HR0 := Aside0.mk hr0
  have HC0 := Aside0.mk hc0
  clear hr0 hc0
  have HB := Aside0.mk (Below.refl w.heap.size w)
  have H : (twoslotref15_told.l0 k l0 ([] : List Int) 0) = some r := h
  clear h
  have H' := Aside0.mk H
  clear H
  go_enter Try.func45, Try.ntmps45
  go_wp2
  go_loopg [3, 4] k (fun kq v3 v4 w' => ∃ (x3_1 : List Int) (x4_1 : Int), v4 = .int .i64 x4_1 ∧ Aside0 (twoslotref15_told.l0 kq l0 x3_1 x4_1 = some r) ∧ Aside0 (kq ≤ k) ∧ Aside0 (Kd.R (Kd.int .u8) 5 w' w.heap.size (fun _ => True) v3 x3_1) ∧ Aside0 (Below w.heap.size w w'))
  case atStart => exact ⟨(([] : List Int)), (0), (by first | rfl | (simp; done) | (simp [*]; done)), H', ⟨Nat.le_refl _⟩, ⟨by first | exact Kd.R_nil _ _ _ _ _ | exact Kd.N_nil _ _ _ _ _ | exact Kd.V_nil _ _ _ _ _ | exact Kd.Q_nil _ _ _ _ _ | exact Kd.S_nil _ _ _ _ _⟩, ⟨by exact sH HB.out⟩⟩
  case round =>
    clear H'
    obtain ⟨x3_1, x4_1, rfl, HA, HK1, HO_3, HB⟩ := hrel
    cases gk with
    | zero => exact absurd HA.out (by simp [twoslotref15_told.l0])
    | succ k1 =>
      have H := HA.out
      clear HA
      simp only [twoslotref15_told.l0] at H
      by_cases c2 : x4_1 < (l0.length : Int)
      · rw [if_pos c2] at H
        have c2b0 : decide (x4_1 < (l0.length : Int)) = true := decide_eq_true c2
        clear c2
        by_cases c3 : 0 ≤ x4_1
        · rw [if_pos c3] at H
          have c3b0 : decide (0 ≤ x4_1) = true := decide_eq_true c3
          clear c3
          replace H := Option.bind_eq_some_iff.mp H
          obtain ⟨t395, A40, H⟩ := H
          try dsimp only at H
          have A4 := Aside0.mk A40
          clear A40
          by_cases c5 : x3_1.length + t395.length < 140737488355328
          · rw [if_pos c5] at H
            have LMc5 := Aside0.mk c5
            clear c5
            obtain ⟨y398, hy398⟩ : ∃ y_ : List Int, y_ = (x3_1 ++ t395) := ⟨_, rfl⟩
            replace H : ((twoslotref15_number.f k1 ((rd_T27 l0 x4_1).f1) 4).bind fun t402 => (if y398.length + t402.length < 140737488355328 then (twoslotref15_told.l0 k1 l0 (y398 ++ t402) (wrap64 (x4_1 + 1))) else (none))) = some r := by first | (rw [hy398]; with_reducible exact H) | (have H2_ := (Option.bind_some _ _).symm.trans H; rw [hy398]; with_reducible exact H2_) | (have H2_ := (Option.bind_some _ _).symm.trans H; with_reducible exact H2_) | with_reducible exact H | (rw [hy398]; exact H) | exact H
            have Ny398 := Aside0.mk hy398
            clear hy398
            replace H := Option.bind_eq_some_iff.mp H
            obtain ⟨t402, A60, H⟩ := H
            try dsimp only at H
            have A6 := Aside0.mk A60
            clear A60
            by_cases c7 : y398.length + t402.length < 140737488355328
            · rw [if_pos c7] at H
              have LMc7 := Aside0.mk c7
              clear c7
              obtain ⟨y405, hy405⟩ : ∃ y_ : List Int, y_ = (y398 ++ t402) := ⟨_, rfl⟩
              replace H : (twoslotref15_told.l0 k1 l0 y405 (wrap64 (x4_1 + 1))) = some r := by first | (rw [hy405]; with_reducible exact H) | (have H2_ := (Option.bind_some _ _).symm.trans H; rw [hy405]; with_reducible exact H2_) | (have H2_ := (Option.bind_some _ _).symm.trans H; with_reducible exact H2_) | with_reducible exact H | (rw [hy405]; exact H) | exact H
              have Ny405 := Aside0.mk hy405
              clear hy405
              have H' := Aside0.mk H
              clear H
              have p394 : 0 ≤ (x4_1 : Int) := of_decide_eq_true (by first | (with_reducible assumption) | assumption)
              have q394 : x4_1 < (l0.length : Int) := of_decide_eq_true (by first | (with_reducible assumption) | assumption)
              obtain ⟨ad394, e394, hx394_0, hx394_1⟩ := at_T27 HR0.out x4_1 p394 q394
              cases e394
              replace hx394_0 := (HB.out.cell (World.block_lt_of_cell? w _ hx394_0)).trans hx394_0
              replace hx394_1 := (HB.out.cell (World.block_lt_of_cell? w _ hx394_1)).trans hx394_1
              replace p394 := eq_true p394
              replace q394 := eq_true q394
              go_wp2_with (first | ((with_reducible refine gate_callee (f := 55) rfl ?_); refine goesL_ (some 17) rfl rfl Try.func55 (by kernel_rfl) rfl #[.int .i64 ((rd_T27 l0 x4_1).f0), .int .i64 2] rfl (by (try simp only [sM]); first | done | rfl | (simp only [sT]; rfl)) ?_; (with_reducible refine (twoslotref15_number.calls k1 ((rd_T27 l0 x4_1).f0) 2 t395 _ A4.out).mono ?_); rintro e w8 ⟨v396, rfl, ho0, hb⟩; refine ⟨_, rfl, ?_⟩; have HO397 := Aside0.mk (Kd.R_lower (Kd.R_new' ho0 (Kd.R_lt (sR HO_3.out))) (sZ HB)); replace HO_3 := Aside0.mk (Kd.R_elder' (sR HO_3.out) (Kd.R_base ho0) hb); replace HB := kH HB hb; (try clear hb); (try clear hb2); (try clear hk); (try clear hi); (try clear ho0); obtain ⟨Ao10, co10, eo10⟩ := Kd.R_slice HO397.out; subst eo10) | ((with_reducible refine gate_builtin (b := .append) (xs := #[.tmp 11, .tmp 17]) rfl ?_); at_builtin; refine Kd.R_append_rows (Kd.int .u8) (w0 := w) w.heap.size rfl (.tmp 11) (.tmp 17) 29 5 (.int .u8 0) 1 rfl Try.underlying29 info5 rfl (by decide) (by omega) u3 x3_1 t395 _ _ _ (fun k_ => some k_ ≠ (.slice Ao10 t395.length co10 : Value).ownBlock) (fun _ => False) rfl rfl ?aO ?aR (fun _ _ h => h) (fun _ h => h.elim) ?aF ?aB ?aS ?aL ?_; (case aR => exact sC (Kd.R_reads' HO397.out).2.2); (case aB => exact (sH HB.out)); (case aF => exact (fun k_ hk => Kd.fresh' (Kd.R_lt (sR HO397.out)) k_ hk)); (case aO => exact (by (with_reducible repeat (first | apply Kd.R_alloc | apply Kd.R_drewN | apply Kd.R_drew)); exact Kd.R_mono HO_3.out (fun _ hk => hk.2))); (case aS => exact (sZ HB)); (case aL => have := LMc5.out; omega); intro v399 w9 ho hb hg hat; rw [← Ny398.out] at ho; have n0_ := Aside0.mk (Kd.R_after (ok := (fun _ => True)) (sR HO397.out) hg hat); have n1_ := Aside0.mk (hb); have n2_ := Aside0.mk (ho); clear HO397; clear HB; clear HO_3; have HO397 := n0_; have HB := n1_; have HO400 := n2_; clear n0_ n1_ n2_; clear ho hb hg hat; have p401 : 0 ≤ (x4_1 : Int) := of_decide_eq_true (by first | (with_reducible assumption) | assumption); have q401 : x4_1 < (l0.length : Int) := of_decide_eq_true (by first | (with_reducible assumption) | assumption); obtain ⟨ad401, e401, hx401_0, hx401_1⟩ := at_T27 HR0.out x4_1 p401 q401; obtain rfl : ad394 = ad401 := (by injection e401); replace hx401_0 := (HB.out.cell (World.block_lt_of_cell? w _ hx401_0)).trans hx401_0; replace hx401_1 := (HB.out.cell (World.block_lt_of_cell? w _ hx401_1)).trans hx401_1; replace p401 := eq_true p401; replace q401 := eq_true q401) | ((with_reducible refine gate_callee (f := 55) rfl ?_); refine goesL_ (some 25) rfl rfl Try.func55 (by kernel_rfl) rfl #[.int .i64 ((rd_T27 l0 x4_1).f1), .int .i64 4] rfl (by (try simp only [sM]); first | done | rfl | (simp only [sT]; rfl)) ?_; (with_reducible refine (twoslotref15_number.calls k1 ((rd_T27 l0 x4_1).f1) 4 t402 _ A6.out).mono ?_); rintro e w11 ⟨v403, rfl, ho0, hb⟩; refine ⟨_, rfl, ?_⟩; have HO404 := Aside0.mk (Kd.R_lower (Kd.R_new' (Kd.R_new' ho0 (Kd.R_lt (sR HO397.out))) (Kd.R_lt (sR HO400.out))) (sZ HB)); replace HO397 := Aside0.mk (Kd.R_elder' (sR HO397.out) (Kd.R_base ho0) hb); replace HO400 := Aside0.mk (Kd.R_elder' (sR HO400.out) (Kd.R_base ho0) hb); replace HB := kH HB hb; (try clear hb); (try clear hb2); (try clear hk); (try clear hi); (try clear ho0); obtain ⟨Ao13, co13, eo13⟩ := Kd.R_slice HO404.out; subst eo13) | ((with_reducible refine gate_builtin (b := .append) (xs := #[.tmp 19, .tmp 25]) rfl ?_); at_builtin; refine Kd.R_append_rows (Kd.int .u8) (w0 := w) w.heap.size rfl (.tmp 19) (.tmp 25) 29 5 (.int .u8 0) 1 rfl Try.underlying29 info5 rfl (by decide) (by omega) v399 y398 t402 _ _ _ (fun k_ => some k_ ≠ (.slice Ao10 t395.length co10 : Value).ownBlock ∧ some k_ ≠ (.slice Ao13 t402.length co13 : Value).ownBlock) (fun _ => False) rfl rfl ?aO ?aR (fun _ _ h => h) (fun _ h => h.elim) ?aF ?aB ?aS ?aL ?_; (case aR => exact sC (Kd.R_reads' HO404.out).2.2); (case aB => exact (sH HB.out)); (case aF => exact (fun k_ hk => ⟨Kd.fresh' (Kd.R_lt (sR HO397.out)) k_ hk, Kd.fresh' (Kd.R_lt (sR HO404.out)) k_ hk⟩)); (case aO => exact (sR HO400.out)); (case aS => exact (sZ HB)); (case aL => have := LMc7.out; omega); intro v406 w12 ho hb hg hat; rw [← Ny405.out] at ho; have n0_ := Aside0.mk (Kd.R_after (ok := (fun k_ => some k_ ≠ (.slice Ao13 t402.length co13 : Value).ownBlock)) (by (with_reducible repeat (first | apply Kd.R_alloc | apply Kd.R_drewN | apply Kd.R_drew)); exact Kd.R_mono HO397.out (fun _ hk => ⟨hk.2, hk.1.2⟩)) hg hat); have n1_ := Aside0.mk (Kd.R_after (ok := (fun k_ => some k_ ≠ (.slice Ao10 t395.length co10 : Value).ownBlock)) (by (with_reducible repeat (first | apply Kd.R_alloc | apply Kd.R_drewN | apply Kd.R_drew)); exact Kd.R_mono HO404.out (fun _ hk => ⟨hk.1.2, hk.2⟩)) hg hat); have n2_ := Aside0.mk (hb); have n3_ := Aside0.mk (ho); clear HO397; clear HO404; clear HB; clear HO400; have HO397 := n0_; have HO404 := n1_; have HB := n2_; have HO407 := n3_; clear n0_ n1_ n2_ n3_; clear ho hb hg hat))
              go_roundg k1
              case measure => have := HK1.out; omega
              case rel => exact ⟨(y405), (wrap64 (x4_1 + 1)), (by first | rfl | (simp; done) | (simp [*]; done)), H', ⟨by have := HK1.out; omega⟩, ⟨by (with_reducible repeat (first | apply Kd.R_alloc | apply Kd.R_drewN | apply Kd.R_drew)); exact Kd.R_mono HO407.out (fun _ hk => trivial)⟩, ⟨by exact sH HB.out⟩⟩
            · rw [if_neg c7] at H
              exact absurd H (by simp)
          · rw [if_neg c5] at H
            exact absurd H (by simp)
        · rw [if_neg c3] at H
          exact absurd H (by simp)
      · rw [if_neg c2] at H
        have c2b0 : decide (x4_1 < (l0.length : Int)) = false := decide_eq_false c2
        clear c2
        obtain rfl := Option.some.inj H
        go_wp2
        go_ret
        exact ⟨_, by first | rfl | (simp [errW_none, errW_some] <;> rfl) | (simp [*, errW_none, errW_some] <;> rfl), by (with_reducible repeat (first | apply Kd.R_alloc | apply Kd.R_drewN | apply Kd.R_drew)); exact HO_3.out, by exact sH HB.out⟩

end Go.Proofs.Ytdpllcmpndcbnaa.P

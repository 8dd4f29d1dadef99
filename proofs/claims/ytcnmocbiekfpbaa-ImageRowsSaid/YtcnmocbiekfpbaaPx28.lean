-- Written by a program of this session, after the kit's print.
import Derived.Test.YtcnmocbiekfpbaaPx0
import Derived.Test.YtcnmocbiekfpbaaP0Short
import Derived.Test.YtcnmocbiekfpbaaPx5
import Derived.Test.YtcnmocbiekfpbaaPx19
namespace Go.Proofs.Ytcnmocbiekfpbaa.P
open Go.RowKit Go.Proofs.YtcnmocbiekfpbaaW.PrintWords Go.Proofs.YtcnmocbiekfpbaaW.PrintLast Go.Proofs.YtcnmocbiekfpbaaW.PrintMore
attribute [local go_sem] max2_int min2_int max_two min_two max_three min_three max_four min_four   -- for this text's walks alone
set_option linter.unusedVariables false
set_option linter.unusedSimpArgs false

def twoslotref09_Blank.f (a0_0 : Int) (a0_1 : Int) (a0_2 : Int) (a0_3 : Int) : Option (Int × Int × Int × Int × (List (List Int)) × Int) := (twoslotref06_May.f a0_0 a0_1 a0_2 a0_3).bind fun t522 => (if t522 = true then ((twoslotref06_N.f a0_0 a0_1 a0_2 a0_3).bind fun t523 => (if 0 ≤ (wrap64 ((wrap64 (t523 * a0_3)) * 2)) then (if (wrap64 ((wrap64 (t523 * a0_3)) * 2) : Int).toNat ≤ 11728124029610 then (some (a0_0, a0_1, a0_2, a0_3, (List.replicate (wrap64 ((wrap64 (t523 * a0_3)) * 2) : Int).toNat []), 0)) else (none)) else (none))) else (some (0, 0, 0, 0, ([] : List (List Int)), 2)))
def twoslotref09_Blank.T3 : Bool × List (List Nat × List Nat) := (true, [([], []), ([], []), ([1], [1]), ([], []), ([3], [3]), ([2, 4], [2, 4]), ([5], [5]), ([6, 6], [6]), ([0, 7], [0, 7]), ([8, 2, 0, 1, 2, 3, 4, 5, 6, 7, 8], [8]), ([9, 0, 1, 2, 3, 4, 5, 6, 7, 8, 9], [])])
def twoslotref09_Blank.B3 : List Nat := [0, 0, 2, 0, 8, 30, 62, 126, 255, 511, 1023]
theorem twoslotref09_Blank.tab3 : rtab .any (opsOf Try.f32 3) = twoslotref09_Blank.T3 := by kernel_rfl
theorem twoslotref09_Blank.bits3 : waitsOk twoslotref09_Blank.T3.2 twoslotref09_Blank.B3 = true := by kernel_rfl
set_option maxHeartbeats 8000000 in
set_option maxRecDepth 100000 in
theorem twoslotref09_Blank.calls (a0_0 : Int) (a0_1 : Int) (a0_2 : Int) (a0_3 : Int) (r1 : Int) (r2 : Int) (r3 : Int) (r4 : Int) (r5 : List (List Int)) (r6 : Int) (w : World) (h : twoslotref09_Blank.f a0_0 a0_1 a0_2 a0_3 = some (r1, r2, r3, r4, r5, r6)) :
  Calls Try.prog 32 #[.agg #[.int .i64 a0_0, .int .i64 a0_1, .int .i64 a0_2, .int .i64 a0_3]] w fun e w' => ∃ v4_ : Value, e = .returned (.tuple #[.agg #[.int .i64 r1, .int .i64 r2, .int .i64 r3, .int .i64 r4, v4_], .int .i64 r6]) ∧ Kd.S (Kd.slice 5 (Kd.int .u8)) 33 w' w.heap.size (fun _ => True) v4_ r5 ∧ Below w.heap.size w w' := by
 have hu24 := Try.underlying24
 have hu27 := Try.underlying27
 have HB := Aside0.mk (Below.refl w.heap.size w)
 have H : ((twoslotref06_May.f a0_0 a0_1 a0_2 a0_3).bind fun t522 => (if t522 = true then ((twoslotref06_N.f a0_0 a0_1 a0_2 a0_3).bind fun t523 => (if 0 ≤ (wrap64 ((wrap64 (t523 * a0_3)) * 2)) then (if (wrap64 ((wrap64 (t523 * a0_3)) * 2) : Int).toNat ≤ 11728124029610 then (some (a0_0, a0_1, a0_2, a0_3, (List.replicate (wrap64 ((wrap64 (t523 * a0_3)) * 2) : Int).toNat []), 0)) else (none)) else (none))) else (some (0, 0, 0, 0, ([] : List (List Int)), 2)))) = some (r1, r2, r3, r4, r5, r6) := h
 clear h
 replace H := Option.bind_eq_some_iff.mp H
 obtain ⟨t522, A20, H⟩ := H
 try dsimp only at H
 have A2 := Aside0.mk A20
 clear A20
 by_cases c3 : t522 = true
 ·
  subst c3
  have H1 : ((twoslotref06_N.f a0_0 a0_1 a0_2 a0_3).bind fun t523 => (if 0 ≤ (wrap64 ((wrap64 (t523 * a0_3)) * 2)) then (if (wrap64 ((wrap64 (t523 * a0_3)) * 2) : Int).toNat ≤ 11728124029610 then (some (a0_0, a0_1, a0_2, a0_3, (List.replicate (wrap64 ((wrap64 (t523 * a0_3)) * 2) : Int).toNat []), 0)) else (none)) else (none))) = some (r1, r2, r3, r4, r5, r6) := by rw [if_pos rfl] at H; exact H
  clear H
  have H := H1
  clear H1
  replace H := Option.bind_eq_some_iff.mp H
  obtain ⟨t523, A40, H⟩ := H
  try dsimp only at H
  have A4 := Aside0.mk A40
  clear A40
  obtain ⟨ji5, hji5⟩ : ∃ j_ : Int, (wrap64 ((wrap64 (t523 * a0_3)) * 2)) = j_ := ⟨_, rfl⟩
  replace H : (if 0 ≤ (ji5) then (if (ji5 : Int).toNat ≤ 11728124029610 then (some (a0_0, a0_1, a0_2, a0_3, (List.replicate (ji5 : Int).toNat []), 0)) else (none)) else (none)) = some (r1, r2, r3, r4, r5, r6) := by first | (rw [hji5] at H; exact H) | (simp only [hji5] at H ⊢; exact H)
  (try rw [hji5] at A2)
  (try rw [hji5] at A4)
  have hji5w : (IntKind.i64.wrap ((wrap64 (t523 * a0_3)) * 2)) = ji5 := (i64_w _).trans hji5
  by_cases c6 : 0 ≤ (ji5)
  ·
   rw [if_pos c6] at H
   have c6b0 := eq_true c6
   have c6b1 : decide (0 ≤ (ji5)) = true := decide_eq_true c6
   clear c6
   by_cases c7 : (ji5 : Int).toNat ≤ 11728124029610
   ·
    rw [if_pos c7] at H
    have c7b0 := eq_true c7
    have c7b1 : decide ((ji5 : Int).toNat ≤ 11728124029610) = true := decide_eq_true c7
    clear c7
    obtain ⟨y524, hy524⟩ : ∃ y_ : List (List Int), y_ = (List.replicate (ji5 : Int).toNat []) := ⟨_, rfl⟩
    replace H : (some (a0_0, a0_1, a0_2, a0_3, y524, 0)) = some (r1, r2, r3, r4, r5, r6) := by first | (rw [hy524]; with_reducible exact H) | (have H2_ := (Option.bind_some _ _).symm.trans H; rw [hy524]; with_reducible exact H2_) | (have H2_ := (Option.bind_some _ _).symm.trans H; with_reducible exact H2_) | with_reducible exact H | (rw [hy524]; exact H) | exact H
    have Ny524 := Aside0.mk hy524
    clear hy524
    simp only [Option.some.injEq, Prod.mk.injEq] at H
    obtain ⟨rfl, rfl, rfl, rfl, rfl, rfl⟩ := H
    go_enter Try.func32, Try.ntmps32
    try go_wp2_with (first | ((with_reducible refine gate_dst (N := 1) rfl ?_); refine box_event rfl (N := 1) rfl (cs := #[.int .i64 a0_0, .int .i64 a0_1, .int .i64 a0_2, .int .i64 a0_3]) (t := 24) (by go_simp; try rfl) ?_; intro gb520 hg w8 hbox hb; have BK520 := Aside0.mk (hbox); have GW520 := Aside0.mk ((by rw [hg]; exact (sZ HB) : w.heap.size ≤ gb520)); have GE520 := Aside0.mk ((by rw [hg]; exact (sZ HB) : w.heap.size ≤ gb520)); replace HB := kH HB hb; clear hb hbox hg) | ((with_reducible refine gate_dst (N := 2) rfl ?_); refine box_event rfl (N := 2) rfl (cs := #[.int .i64 0, .int .i64 0, .int .i64 0, .int .i64 0, .slice none 0 0]) (t := 27) (by go_simp; try rfl) ?_; intro gb521 hg w9 hbox hb; have BK521 := Aside0.mk (hbox); have GW521 := Aside0.mk ((by rw [hg]; exact (below_size (by repeat (first | exact sH HB.out | refine sN (w := w) ?_ | with_reducible refine sG (w := w) ?_ (by assumption)))) : w.heap.size ≤ gb521)); have GE521 := Aside0.mk ((by rw [hg]; exact (below_size (by repeat (first | exact sH HB.out | refine sN (w := w) ?_ | with_reducible refine sG (w := w) ?_ (by assumption)))) : w.heap.size ≤ gb521)); replace HB := Aside0.mk (below_step (by repeat (first | exact sH HB.out | refine sN (w := w) ?_ | with_reducible refine sG (w := w) ?_ (by assumption))) hb); have NB520_521 := Aside0.mk ((by rw [hg]; exact Nat.ne_of_lt (blk_lt (g := gb520) (o := .cells #[.int .i64 a0_0, .int .i64 a0_1, .int .i64 a0_2, .int .i64 a0_3] 24 (0, 0)) (by first | exact BK520.out | (refine sO ?_; exact BK520.out))) : gb520 ≠ gb521)); have NB521_520 := Aside0.mk ((by rw [hg]; exact Nat.ne_of_gt (blk_lt (g := gb520) (o := .cells #[.int .i64 a0_0, .int .i64 a0_1, .int .i64 a0_2, .int .i64 a0_3] 24 (0, 0)) (by first | exact BK520.out | (refine sO ?_; exact BK520.out))) : gb521 ≠ gb520)); replace BK520 := kB BK520 hb; clear hb hbox hg; have hnb10 := NB520_521.out; have hnc10 := NB521_520.out; obtain ⟨hcz11_0, hcz11_1, hcz11_2, hcz11_3, hfz11_0, hfz11_1, hfz11_2, hfz11_3⟩ := cs4 BK520.out) | ((with_reducible refine gate_callee (f := 52) rfl ?_); refine goesL_ (some 5) rfl rfl Try.func52 (by kernel_rfl) rfl #[.agg #[.int .i64 a0_0, .int .i64 a0_1, .int .i64 a0_2, .int .i64 a0_3]] rfl (by (try simp only [sM]); first | done | rfl | (simp only [sT]; rfl)) ?_; (with_reducible refine (twoslotref06_May.calls a0_0 a0_1 a0_2 a0_3 true _ A2.out).mono ?_); rintro e w12 ⟨rfl, hb⟩; refine ⟨_, rfl, ?_⟩; replace BK520 := kB BK520 hb; replace BK521 := kB BK521 hb; replace HB := Aside0.mk (below_step (by repeat (first | exact sH HB.out | refine sN (w := w) ?_ | with_reducible refine sG (w := w) ?_ (by assumption))) hb); (try clear hb); (try clear hb2); (try clear hk); (try clear hi)))
    replace BK520 := Aside0.mk (blk_drew BK520.out); replace BK521 := Aside0.mk (blk_drew BK521.out); replace HB := Aside0.mk (below_drew1 HB.out)
    refine start_ (n := 11) (S := fun w' => w'.cell? ⟨gb520, 0, none⟩ = some (.int .i64 a0_0) ∧ w'.cell? ⟨gb520, 1, none⟩ = some (.int .i64 a0_1) ∧ w'.cell? ⟨gb520, 2, none⟩ = some (.int .i64 a0_2) ∧ w'.cell? ⟨gb520, 3, none⟩ = some (.int .i64 a0_3)) (ds := []) #[O,O,O,O,O,O,O,O,O,O,O] (by kernel_rfl) rfl rfl ⟨(blk_cell BK520.out 0).trans rfl, (blk_cell BK520.out 1).trans rfl, (blk_cell BK520.out 2).trans rfl, (blk_cell BK520.out 3).trans rfl⟩ (fun hHeld => ?_); refine with_tabW twoslotref09_Blank.tab3 twoslotref09_Blank.bits3 (fun HT_ HW_ => ?_)
    generalize w12.drew = w13 at BK520 BK521 HB hHeld ⊢
    refine pu (i := 3) (N := some 11) (v := ?_) (a' := ?_) #[O,O,O,X,O,O,O,O,O,O,O] rfl rfl HT_ (by kernel_rfl) (fun _ _ _ h => h) ⟨by rfl, ?_⟩ ?_ ?_
    rotate_left; (intro w'; go_simp; with_reducible rfl); rotate_left; (simp only [sP]; rfl)
    refine tu (i := 0) (N := some 8) (v := ?_) (a' := ?_) #[X,O,O,X,O,O,O,O,O,O,O] rfl rfl HT_ HW_ (by kernel_rfl) (fun _ _ _ h => h) ⟨by rfl, ?_⟩ hHeld ?_ ?_
    rotate_left; (rintro w' ⟨s0, s1, s2, s3⟩; go_simp; with_reducible rfl); rotate_left; (simp only [sP]; rfl)
    refine tu (i := 1) (N := some 9) (v := ?_) (a' := ?_) #[X,X,O,X,O,O,O,O,O,O,O] rfl rfl HT_ HW_ (by kernel_rfl) (fun _ _ _ h => h) ⟨by rfl, ?_⟩ hHeld ?_ ?_
    rotate_left; (rintro w' ⟨s0, s1, s2, s3⟩; go_simp; with_reducible rfl); rotate_left; (simp only [sP]; rfl)
    refine tu (i := 4) (N := some 12) (v := ?_) (a' := ?_) #[X,X,O,X,X,O,O,O,O,O,O] rfl rfl HT_ HW_ (by kernel_rfl) (fun _ _ _ h => h) ⟨by rfl, ?_⟩ hHeld ?_ ?_
    rotate_left; (rintro w' ⟨s0, s1, s2, s3⟩; go_simp; with_reducible rfl); rotate_left; (simp only [sP]; rfl)
    refine one_ (i := 2) (N := some 10) #[X,X,X,X,X,O,O,O,O,O,O] rfl rfl (one_of HT_.out (by kernel_rfl)) (by decide) (fun K hK => ?_)
    refine goes_ Try.func51 (by kernel_rfl) rfl #[.agg #[.int .i64 a0_0, .int .i64 a0_1, .int .i64 a0_2, .int .i64 a0_3]] (by rfl) rfl rfl (by (try simp only [sM]); first | done | rfl | (simp only [sT]; rfl)) ?_
    with_reducible refine (twoslotref06_N.calls a0_0 a0_1 a0_2 a0_3 t523 _ A4.out).mono ?_
    rintro e w14 ⟨rfl, hb⟩
    refine ⟨_, rfl, ?_⟩
    replace BK520 := kB BK520 hb; replace BK521 := kB BK521 hb; replace HB := Aside0.mk (below_step (by repeat (first | exact sH HB.out | refine sN (w := w) ?_ | with_reducible refine sG (w := w) ?_ (by assumption))) hb)
    (try clear hb)
    (try clear hb2)
    (try clear hk)
    (try clear hi)
    refine hK.out _ _ ⟨(blk_cell BK520.out 0).trans rfl, (blk_cell BK520.out 1).trans rfl, (blk_cell BK520.out 2).trans rfl, (blk_cell BK520.out 3).trans rfl⟩ (fun hHeld => ?_)
    clear hK K
    refine norm_ (a' := ?_) ?_ ?_
    rotate_left
    ·
     show Act.put _ (some 10) _ = _
     simp only [sP]
     rfl
    refine pu (i := 5) (N := some 13) (v := ?_) (a' := ?_) #[X,X,X,X,X,X,O,O,O,O,O] rfl rfl HT_ (by kernel_rfl) (fun _ _ _ h => h) ⟨by rfl, ?_⟩ ?_ ?_
    rotate_left; (intro w'; go_simp; with_reducible rfl); rotate_left; (simp only [sP]; rfl)
    refine pu (i := 6) (N := some 14) (v := ?_) (a' := ?_) #[X,X,X,X,X,X,X,O,O,O,O] rfl rfl HT_ (by kernel_rfl) (fun _ _ _ h => h) ⟨by rfl, ?_⟩ ?_ ?_
    rotate_left; (intro w'; go_simp; with_reducible rfl); rotate_left; (simp only [sP]; rfl)
    refine one_ (i := 7) (N := some 15) #[X,X,X,X,X,X,X,X,O,O,O] rfl rfl (one_of HT_.out (by kernel_rfl)) (by decide) (fun K hK => ?_)
    refine Kd.S_make_step (Kd.slice 5 (Kd.int .u8)) _ 33 (by rfl) (N := 15) rfl 25 _ _ rfl ji5 rfl rfl Try.underlying25 (.slice none 0 0) 24 info33 rfl (by decide) (by omega) [] (ok := fun _ => True) (okp := fun _ => True) ⟨_, rfl, Kd.R_nil _ _ _ _ _⟩ (fun _ hk => hk) trivial (of_decide_eq_true (by first | (with_reducible assumption) | assumption)) (Nat.le_trans (Nat.mul_le_mul_right _ (of_decide_eq_true (by first | (with_reducible assumption) | assumption) : ji5.toNat ≤ 11728124029610)) (by omega)) (Below.refl _ _) (Nat.le_refl _) ?_
    intro v525 w15 ho16 hb hg_ hnew_
    clear hg_ hnew_
    (first | rw [← Ny524.out] at ho16 | (simp only [Int.reduceToNat] at ho16; rw [← Ny524.out] at ho16))
    have HO526 := Aside0.mk (Kd.S_lower ho16 (below_size (by repeat (first | exact sH HB.out | refine sN (w := w) ?_ | with_reducible refine sG (w := w) ?_ (by assumption))))); replace BK520 := kB BK520 hb; replace BK521 := kB BK521 hb; replace HB := Aside0.mk (below_step (by repeat (first | exact sH HB.out | refine sN (w := w) ?_ | with_reducible refine sG (w := w) ?_ (by assumption))) hb)
    clear hb ho16
    obtain ⟨Ao17, co17, eo17⟩ := Kd.S_slice HO526.out
    (first | subst eo17 | (injection eo17 with f1_ f2_ f3_; have f4_ := f1_.symm; have f5_ := f3_.symm; clear f1_ f2_ f3_; subst f4_; subst f5_))
    refine hK.out _ _ ⟨(blk_cell BK520.out 0).trans rfl, (blk_cell BK520.out 1).trans rfl, (blk_cell BK520.out 2).trans rfl, (blk_cell BK520.out 3).trans rfl⟩ (fun hHeld => ?_)
    clear hK K
    refine norm_ (a' := ?_) ?_ ?_
    rotate_left
    ·
     show Act.put _ (some 15) _ = _
     simp only [sP]
     rfl
    refine pu (i := 8) (N := some 16) (v := ?_) (a' := ?_) #[X,X,X,X,X,X,X,X,X,O,O] rfl rfl HT_ (by kernel_rfl) (fun _ _ _ h => h) ⟨by rfl, ?_⟩ ?_ ?_
    rotate_left; (intro w'; go_simp; with_reducible rfl); rotate_left; (simp only [sP]; rfl)
    refine one_ (i := 9) (N := none) #[X,X,X,X,X,X,X,X,X,X,O] rfl rfl (one_of HT_.out (by kernel_rfl)) (by decide) (fun K hK => ?_)
    have hs18 : w15.cell? ⟨gb521, 0, none⟩ = some (.int .i64 0) := (blk_cell BK521.out 0).trans rfl
    have hfs18 := blk_frozen BK521.out 0
    have hns18_0 := NB520_521.out
    have hms18_0 := NB521_520.out
    have hs19 : w15.cell? ⟨gb521, 1, none⟩ = some (.int .i64 0) := (blk_cell BK521.out 1).trans rfl
    have hfs19 := blk_frozen BK521.out 1
    have hns19_0 := NB520_521.out
    have hms19_0 := NB521_520.out
    have hs20 : w15.cell? ⟨gb521, 2, none⟩ = some (.int .i64 0) := (blk_cell BK521.out 2).trans rfl
    have hfs20 := blk_frozen BK521.out 2
    have hns20_0 := NB520_521.out
    have hms20_0 := NB521_520.out
    have hs21 : w15.cell? ⟨gb521, 3, none⟩ = some (.int .i64 0) := (blk_cell BK521.out 3).trans rfl
    have hfs21 := blk_frozen BK521.out 3
    have hns21_0 := NB520_521.out
    have hms21_0 := NB521_520.out
    have hs22 : w15.cell? ⟨gb521, 4, none⟩ = some (.slice none 0 0) := (blk_cell BK521.out 4).trans rfl
    have hfs22 := blk_frozen BK521.out 4
    have hns22_0 := NB520_521.out
    have hms22_0 := NB521_520.out
    refine skip_ (w1 := ?_) (by rfl) rfl ?_ ?_
    rotate_left
    ·
     go_simp
     rfl
    refine hK.out _ _ ⟨((cell_far (p := ⟨gb521, _, none⟩) NB520_521.out _).trans (((cell_far (p := ⟨gb521, _, none⟩) NB520_521.out _).trans (((cell_far (p := ⟨gb521, _, none⟩) NB520_521.out _).trans (((cell_far (p := ⟨gb521, _, none⟩) NB520_521.out _).trans (((cell_far (p := ⟨gb521, _, none⟩) NB520_521.out _).trans (hHeld.1)))))))))), ((cell_far (p := ⟨gb521, _, none⟩) NB520_521.out _).trans (((cell_far (p := ⟨gb521, _, none⟩) NB520_521.out _).trans (((cell_far (p := ⟨gb521, _, none⟩) NB520_521.out _).trans (((cell_far (p := ⟨gb521, _, none⟩) NB520_521.out _).trans (((cell_far (p := ⟨gb521, _, none⟩) NB520_521.out _).trans (hHeld.2.1)))))))))), ((cell_far (p := ⟨gb521, _, none⟩) NB520_521.out _).trans (((cell_far (p := ⟨gb521, _, none⟩) NB520_521.out _).trans (((cell_far (p := ⟨gb521, _, none⟩) NB520_521.out _).trans (((cell_far (p := ⟨gb521, _, none⟩) NB520_521.out _).trans (((cell_far (p := ⟨gb521, _, none⟩) NB520_521.out _).trans (hHeld.2.2.1)))))))))), ((cell_far (p := ⟨gb521, _, none⟩) NB520_521.out _).trans (((cell_far (p := ⟨gb521, _, none⟩) NB520_521.out _).trans (((cell_far (p := ⟨gb521, _, none⟩) NB520_521.out _).trans (((cell_far (p := ⟨gb521, _, none⟩) NB520_521.out _).trans (((cell_far (p := ⟨gb521, _, none⟩) NB520_521.out _).trans (hHeld.2.2.2))))))))))⟩ (fun hHeld => ?_)
    clear hK K
    refine pu (i := 10) (N := some 3) (v := ?_) (a' := ?_) #[X,X,X,X,X,X,X,X,X,X,X] rfl rfl HT_ (by kernel_rfl) (fun _ _ _ h => h) ⟨by rfl, ?_⟩ ?_ ?_
    rotate_left; (intro w'; go_simp; with_reducible rfl); rotate_left; (simp only [sP]; rfl)
    refine done_ (done_of HT_.out (by kernel_rfl)) ?_
    try go_wp2
    refine bodyPost_ret (results_ct rfl _ _ gb521 27 #[.int .i64 a0_0, .int .i64 a0_1, .int .i64 a0_2, .int .i64 a0_3, .slice Ao17 y524.length co17] (0, 0) _ rfl (by (try refine sO ?_); refine blk_put (cs := #[.int .i64 a0_0, .int .i64 a0_1, .int .i64 a0_2, .int .i64 a0_3, .slice none 0 0]) ?_ 4 _ rfl; (try refine sO ?_); refine blk_put (cs := #[.int .i64 a0_0, .int .i64 a0_1, .int .i64 a0_2, .int .i64 0, .slice none 0 0]) ?_ 3 _ rfl; (try refine sO ?_); refine blk_put (cs := #[.int .i64 a0_0, .int .i64 a0_1, .int .i64 0, .int .i64 0, .slice none 0 0]) ?_ 2 _ rfl; (try refine sO ?_); refine blk_put (cs := #[.int .i64 a0_0, .int .i64 0, .int .i64 0, .int .i64 0, .slice none 0 0]) ?_ 1 _ rfl; (try refine sO ?_); refine blk_put (cs := #[.int .i64 0, .int .i64 0, .int .i64 0, .int .i64 0, .slice none 0 0]) ?_ 0 _ rfl; first | exact BK521.out | (refine sO ?_; exact BK521.out)) Try.underlying27 rfl (by kernel_rfl)) rfl ?_
    exact ⟨_, by first | rfl | (simp [errW_none, errW_some] <;> rfl) | (simp only [← hji5]; first | rfl | (simp [errW_none, errW_some] <;> rfl)) | (simp [*, errW_none, errW_some] <;> rfl), by (with_reducible repeat (first | apply Kd.S_alloc | apply Kd.S_drewN | apply Kd.S_drew)); exact Kd.S_mono (Kd.S_far (p := ⟨gb521, 4, none⟩) (Kd.S_far (p := ⟨gb521, 3, none⟩) (Kd.S_far (p := ⟨gb521, 2, none⟩) (Kd.S_far (p := ⟨gb521, 1, none⟩) (Kd.S_far (p := ⟨gb521, 0, none⟩) (Kd.S_types HO526.out BK521.out (by decide)) (fun _ hk => hk.2) (.int .i64 a0_0)) (fun _ hk => hk.2) (.int .i64 a0_1)) (fun _ hk => hk.2) (.int .i64 a0_2)) (fun _ hk => hk.2) (.int .i64 a0_3)) (fun _ hk => hk.2) (.slice Ao17 y524.length co17)) (fun _ hk => trivial), by repeat (first | exact sH HB.out | refine sN (w := w) ?_ | with_reducible refine sG (w := w) ?_ (by assumption))⟩
   ·
    rw [if_neg c7] at H
    exact absurd H (by simp)
  ·
   rw [if_neg c6] at H
   exact absurd H (by simp)
 ·
  replace c3 := Bool.eq_false_iff.mpr c3
  subst c3
  have H1 : (some (0, 0, 0, 0, ([] : List (List Int)), 2)) = some (r1, r2, r3, r4, r5, r6) := by rw [if_neg (show ¬ (false = true) by decide)] at H; exact H
  clear H
  have H := H1
  clear H1
  simp only [Option.some.injEq, Prod.mk.injEq] at H
  obtain ⟨rfl, rfl, rfl, rfl, rfl, rfl⟩ := H
  go_enter Try.func32, Try.ntmps32
  go_wp2_with (first | ((with_reducible refine gate_dst (N := 1) rfl ?_); refine box_event rfl (N := 1) rfl (cs := #[.int .i64 a0_0, .int .i64 a0_1, .int .i64 a0_2, .int .i64 a0_3]) (t := 24) (by go_simp; try rfl) ?_; intro gb520 hg w23 hbox hb; have BK520 := Aside0.mk (hbox); have GW520 := Aside0.mk ((by rw [hg]; exact (sZ HB) : w.heap.size ≤ gb520)); have GE520 := Aside0.mk ((by rw [hg]; exact (sZ HB) : w.heap.size ≤ gb520)); replace HB := kH HB hb; clear hb hbox hg) | ((with_reducible refine gate_dst (N := 2) rfl ?_); refine box_event rfl (N := 2) rfl (cs := #[.int .i64 0, .int .i64 0, .int .i64 0, .int .i64 0, .slice none 0 0]) (t := 27) (by go_simp; try rfl) ?_; intro gb521 hg w24 hbox hb; have BK521 := Aside0.mk (hbox); have GW521 := Aside0.mk ((by rw [hg]; exact (below_size (by repeat (first | exact sH HB.out | refine sN (w := w) ?_ | with_reducible refine sG (w := w) ?_ (by assumption)))) : w.heap.size ≤ gb521)); have GE521 := Aside0.mk ((by rw [hg]; exact (below_size (by repeat (first | exact sH HB.out | refine sN (w := w) ?_ | with_reducible refine sG (w := w) ?_ (by assumption)))) : w.heap.size ≤ gb521)); replace HB := Aside0.mk (below_step (by repeat (first | exact sH HB.out | refine sN (w := w) ?_ | with_reducible refine sG (w := w) ?_ (by assumption))) hb); have NB520_521 := Aside0.mk ((by rw [hg]; exact Nat.ne_of_lt (blk_lt (g := gb520) (o := .cells #[.int .i64 a0_0, .int .i64 a0_1, .int .i64 a0_2, .int .i64 a0_3] 24 (0, 0)) (by first | exact BK520.out | (refine sO ?_; exact BK520.out))) : gb520 ≠ gb521)); have NB521_520 := Aside0.mk ((by rw [hg]; exact Nat.ne_of_gt (blk_lt (g := gb520) (o := .cells #[.int .i64 a0_0, .int .i64 a0_1, .int .i64 a0_2, .int .i64 a0_3] 24 (0, 0)) (by first | exact BK520.out | (refine sO ?_; exact BK520.out))) : gb521 ≠ gb520)); replace BK520 := kB BK520 hb; clear hb hbox hg; have hnb25 := NB520_521.out; have hnc25 := NB521_520.out; obtain ⟨hcz26_0, hcz26_1, hcz26_2, hcz26_3, hfz26_0, hfz26_1, hfz26_2, hfz26_3⟩ := cs4 BK520.out) | ((with_reducible refine gate_callee (f := 52) rfl ?_); refine goesL_ (some 5) rfl rfl Try.func52 (by kernel_rfl) rfl #[.agg #[.int .i64 a0_0, .int .i64 a0_1, .int .i64 a0_2, .int .i64 a0_3]] rfl (by (try simp only [sM]); first | done | rfl | (simp only [sT]; rfl)) ?_; (with_reducible refine (twoslotref06_May.calls a0_0 a0_1 a0_2 a0_3 false _ A2.out).mono ?_); rintro e w27 ⟨rfl, hb⟩; refine ⟨_, rfl, ?_⟩; replace BK520 := kB BK520 hb; replace BK521 := kB BK521 hb; replace HB := Aside0.mk (below_step (by repeat (first | exact sH HB.out | refine sN (w := w) ?_ | with_reducible refine sG (w := w) ?_ (by assumption))) hb); (try clear hb); (try clear hb2); (try clear hk); (try clear hi); obtain ⟨hcz28_0, hcz28_1, hcz28_2, hcz28_3, hcz28_4, hfz28_0, hfz28_1, hfz28_2, hfz28_3, hfz28_4⟩ := cs5 BK521.out))
  refine bodyPost_ret (results_ct rfl _ _ gb521 27 #[.int .i64 0, .int .i64 0, .int .i64 0, .int .i64 0, .slice none 0 0] (0, 0) _ rfl (by (try refine sO ?_); refine blk_put (cs := #[.int .i64 0, .int .i64 0, .int .i64 0, .int .i64 0, .slice none 0 0]) ?_ 4 _ rfl; (try refine sO ?_); refine blk_put (cs := #[.int .i64 0, .int .i64 0, .int .i64 0, .int .i64 0, .slice none 0 0]) ?_ 3 _ rfl; (try refine sO ?_); refine blk_put (cs := #[.int .i64 0, .int .i64 0, .int .i64 0, .int .i64 0, .slice none 0 0]) ?_ 2 _ rfl; (try refine sO ?_); refine blk_put (cs := #[.int .i64 0, .int .i64 0, .int .i64 0, .int .i64 0, .slice none 0 0]) ?_ 1 _ rfl; (try refine sO ?_); refine blk_put (cs := #[.int .i64 0, .int .i64 0, .int .i64 0, .int .i64 0, .slice none 0 0]) ?_ 0 _ rfl; first | exact BK521.out | (refine sO ?_; exact BK521.out)) Try.underlying27 rfl (by kernel_rfl)) rfl ?_
  exact ⟨_, by first | rfl | (simp [errW_none, errW_some] <;> rfl) | (simp [*, errW_none, errW_some] <;> rfl), by first | exact Kd.S_nil _ _ _ _ _ | exact Kd.N_nil _ _ _ _ _ | exact Kd.V_nil _ _ _ _ _ | exact Kd.Q_nil _ _ _ _ _ | exact Kd.R_nil _ _ _ _ _, by repeat (first | exact sH HB.out | refine sN (w := w) ?_ | with_reducible refine sG (w := w) ?_ (by assumption))⟩

def twoslotref09_SamePairs.l0 : Nat → List (S59) → List (S59) → Int → Option (Bool)
 | 0, _, _, _ => none
 | k + 1, x0, x1, x5 => if x5 < (x0.length : Int) then (if 0 ≤ x5 then (if x5 < (x1.length : Int) then (if (strOfNums ((rd_T59 x0 x5).f0)).toList = (strOfNums ((rd_T59 x1 x5).f0)).toList then (if (strOfNums ((rd_T59 x0 x5).f1)).toList = (strOfNums ((rd_T59 x1 x5).f1)).toList then (twoslotref09_SamePairs.l0 k x0 x1 (wrap64 (x5 + 1))) else (some false)) else (some false)) else (none)) else (none)) else (some true)
def twoslotref09_SamePairs.f (k : Nat) (l0 : List (S59)) (l1 : List (S59)) : Option (Bool) := if (l0.length : Int) = (l1.length : Int) then (twoslotref09_SamePairs.l0 k l0 l1 0) else (some false)
set_option maxHeartbeats 8000000 in
set_option maxRecDepth 100000 in
theorem twoslotref09_SamePairs.calls (k : Nat) (A0 : Option Addr) (c0 : Nat) (l0 : List (S59)) (A1 : Option Addr) (c1 : Nat) (l1 : List (S59)) (r : Bool) (w : World) (hr0 : Kd.C k59 w A0 l0.length l0) (hc0 : l0.length ≤ c0) (hr1 : Kd.C k59 w A1 l1.length l1) (hc1 : l1.length ≤ c1) (h : twoslotref09_SamePairs.f k l0 l1 = some r) :
  Calls Try.prog 33 #[.slice A0 l0.length c0, .slice A1 l1.length c1] w fun e w' => e = .returned (.bool r) ∧ Drawn0 w w' := by
 have HR0 := Aside0.mk hr0
 have HC0 := Aside0.mk hc0
 clear hr0 hc0
 have HR1 := Aside0.mk hr1
 have HC1 := Aside0.mk hc1
 clear hr1 hc1
 have H : (if (l0.length : Int) = (l1.length : Int) then (twoslotref09_SamePairs.l0 k l0 l1 0) else (some false)) = some r := h
 clear h
 by_cases c3 : (l0.length : Int) = (l1.length : Int)
 ·
  rw [if_pos c3] at H
  have c3b0 : ((l0.length : Int) == (l1.length : Int)) = true := beq_iff_eq.mpr c3
  have c3b1 : ((l0.length : Int) != (l1.length : Int)) = false := bne_eq_false_iff_eq.mpr c3
  have c3b2 : (l0.length == l1.length) = true := by first | simpa using c3 | (simp at c3 ⊢; omega)
  clear c3
  have H' := Aside0.mk H
  clear H
  go_enter Try.func33, Try.ntmps33
  go_wp2
  repeat (go_quiet (fail); try go_wp2)
  go_loopg [5] k (fun kq v5 w' => ∃ (x5_1 : Int), v5 = .int .i64 x5_1 ∧ Aside0 (twoslotref09_SamePairs.l0 kq l0 l1 x5_1 = some r) ∧ Aside0 (kq ≤ k) ∧ Drawn0 w w')
  case atStart => exact ⟨(0), (by first | rfl | (simp; done) | (simp [*]; done)), H', ⟨Nat.le_refl _⟩, by repeat (first | exact Drawn0.refl _ | apply Drawn0.step)⟩
  case round =>
   clear H'
   try clear c1
   try clear p2
   try clear c3
   try clear c3b0
   try clear c3b1
   try clear c3b2
   obtain ⟨x5_1, rfl, HA, HK1, ⟨m1, rfl⟩⟩ := hrel
   cases gk with
   | zero => exact absurd HA.out (by simp [twoslotref09_SamePairs.l0])
   | succ k1 =>
    have H := HA.out
    clear HA
    simp only [twoslotref09_SamePairs.l0] at H
    by_cases c4 : x5_1 < (l0.length : Int)
    ·
     rw [if_pos c4] at H
     have c4b0 : decide (x5_1 < (l0.length : Int)) = true := decide_eq_true c4
     clear c4
     by_cases c5 : 0 ≤ x5_1
     ·
      rw [if_pos c5] at H
      have c5b0 : decide (0 ≤ x5_1) = true := decide_eq_true c5
      clear c5
      by_cases c6 : x5_1 < (l1.length : Int)
      ·
       rw [if_pos c6] at H
       have c6b0 : decide (x5_1 < (l1.length : Int)) = true := decide_eq_true c6
       clear c6
       by_cases c7 : (strOfNums ((rd_T59 l0 x5_1).f0)).toList = (strOfNums ((rd_T59 l1 x5_1).f0)).toList
       ·
        rw [if_pos c7] at H
        have c7b0 : ((strOfNums ((rd_T59 l0 x5_1).f0)).toList == (strOfNums ((rd_T59 l1 x5_1).f0)).toList) = true := beq_iff_eq.mpr c7
        have c7b1 : ((strOfNums ((rd_T59 l0 x5_1).f0)).toList != (strOfNums ((rd_T59 l1 x5_1).f0)).toList) = false := bne_eq_false_iff_eq.mpr c7
        clear c7
        by_cases c8 : (strOfNums ((rd_T59 l0 x5_1).f1)).toList = (strOfNums ((rd_T59 l1 x5_1).f1)).toList
        ·
         rw [if_pos c8] at H
         have c8b0 : ((strOfNums ((rd_T59 l0 x5_1).f1)).toList == (strOfNums ((rd_T59 l1 x5_1).f1)).toList) = true := beq_iff_eq.mpr c8
         have c8b1 : ((strOfNums ((rd_T59 l0 x5_1).f1)).toList != (strOfNums ((rd_T59 l1 x5_1).f1)).toList) = false := bne_eq_false_iff_eq.mpr c8
         clear c8
         have H' := Aside0.mk H
         clear H
         have p527 : 0 ≤ (x5_1 : Int) := of_decide_eq_true (by first | (with_reducible assumption) | assumption)
         have q527 : x5_1 < (l0.length : Int) := of_decide_eq_true (by first | (with_reducible assumption) | assumption)
         obtain ⟨ad527, A527_0, c527_0, A527_1, c527_1, e527, hx527_0, hx527_1, hl527_0, hi527_0, hl527_1, hi527_1⟩ := at_T59 HR0.out x5_1 p527 q527
         cases e527
         have HR527_0 := Aside0.mk hi527_0
         have HC527_0 := Aside0.mk hl527_0
         clear hi527_0 hl527_0
         have HR527_1 := Aside0.mk hi527_1
         have HC527_1 := Aside0.mk hl527_1
         clear hi527_1 hl527_1
         replace p527 := eq_true p527
         replace q527 := eq_true q527
         have hcv9 := Kd.C_string (P := Try.prog) (A := A527_0) (c := c527_0) Try.underlying33 Try.underlying5 Try.underlying9 HR527_0.out
         have hq9 := fun n => Kd.C_string (P := Try.prog) (A := A527_0) (c := c527_0) Try.underlying33 Try.underlying5 Try.underlying9 (Kd.C_drewN (HR527_0.out) n)
         have p528 : 0 ≤ (x5_1 : Int) := of_decide_eq_true (by first | (with_reducible assumption) | assumption)
         have q528 : x5_1 < (l1.length : Int) := of_decide_eq_true (by first | (with_reducible assumption) | assumption)
         obtain ⟨ad528, A528_0, c528_0, A528_1, c528_1, e528, hx528_0, hx528_1, hl528_0, hi528_0, hl528_1, hi528_1⟩ := at_T59 HR1.out x5_1 p528 q528
         cases e528
         have HR528_0 := Aside0.mk hi528_0
         have HC528_0 := Aside0.mk hl528_0
         clear hi528_0 hl528_0
         have HR528_1 := Aside0.mk hi528_1
         have HC528_1 := Aside0.mk hl528_1
         clear hi528_1 hl528_1
         replace p528 := eq_true p528
         replace q528 := eq_true q528
         have hcv10 := Kd.C_string (P := Try.prog) (A := A528_0) (c := c528_0) Try.underlying33 Try.underlying5 Try.underlying9 HR528_0.out
         have hq10 := fun n => Kd.C_string (P := Try.prog) (A := A528_0) (c := c528_0) Try.underlying33 Try.underlying5 Try.underlying9 (Kd.C_drewN (HR528_0.out) n)
         have p529 : 0 ≤ (x5_1 : Int) := of_decide_eq_true (by first | (with_reducible assumption) | assumption)
         have q529 : x5_1 < (l0.length : Int) := of_decide_eq_true (by first | (with_reducible assumption) | assumption)
         obtain ⟨ad529, A529_0, c529_0, A529_1, c529_1, e529, hx529_0, hx529_1, hl529_0, hi529_0, hl529_1, hi529_1⟩ := at_T59 HR0.out x5_1 p529 q529
         obtain rfl : ad527 = ad529 := (by injection e529)
         have HR529_0 := Aside0.mk hi529_0
         have HC529_0 := Aside0.mk hl529_0
         clear hi529_0 hl529_0
         have HR529_1 := Aside0.mk hi529_1
         have HC529_1 := Aside0.mk hl529_1
         clear hi529_1 hl529_1
         replace p529 := eq_true p529
         replace q529 := eq_true q529
         have ea_ := Option.some.inj (hx527_0.symm.trans hx529_0)
         injection ea_ with ea_ en_ ec_
         subst ea_
         subst ec_
         clear en_
         have ea_ := Option.some.inj (hx527_1.symm.trans hx529_1)
         injection ea_ with ea_ en_ ec_
         subst ea_
         subst ec_
         clear en_
         have hcv11 := Kd.C_string (P := Try.prog) (A := A527_1) (c := c527_1) Try.underlying33 Try.underlying5 Try.underlying9 HR529_1.out
         have hq11 := fun n => Kd.C_string (P := Try.prog) (A := A527_1) (c := c527_1) Try.underlying33 Try.underlying5 Try.underlying9 (Kd.C_drewN (HR529_1.out) n)
         have p530 : 0 ≤ (x5_1 : Int) := of_decide_eq_true (by first | (with_reducible assumption) | assumption)
         have q530 : x5_1 < (l1.length : Int) := of_decide_eq_true (by first | (with_reducible assumption) | assumption)
         obtain ⟨ad530, A530_0, c530_0, A530_1, c530_1, e530, hx530_0, hx530_1, hl530_0, hi530_0, hl530_1, hi530_1⟩ := at_T59 HR1.out x5_1 p530 q530
         obtain rfl : ad528 = ad530 := (by injection e530)
         have HR530_0 := Aside0.mk hi530_0
         have HC530_0 := Aside0.mk hl530_0
         clear hi530_0 hl530_0
         have HR530_1 := Aside0.mk hi530_1
         have HC530_1 := Aside0.mk hl530_1
         clear hi530_1 hl530_1
         replace p530 := eq_true p530
         replace q530 := eq_true q530
         have ea_ := Option.some.inj (hx528_0.symm.trans hx530_0)
         injection ea_ with ea_ en_ ec_
         subst ea_
         subst ec_
         clear en_
         have ea_ := Option.some.inj (hx528_1.symm.trans hx530_1)
         injection ea_ with ea_ en_ ec_
         subst ea_
         subst ec_
         clear en_
         have hcv12 := Kd.C_string (P := Try.prog) (A := A528_1) (c := c528_1) Try.underlying33 Try.underlying5 Try.underlying9 HR530_1.out
         have hq12 := fun n => Kd.C_string (P := Try.prog) (A := A528_1) (c := c528_1) Try.underlying33 Try.underlying5 Try.underlying9 (Kd.C_drewN (HR530_1.out) n)
         go_wp2
         repeat (go_quiet ((first | (rintro ⟨n_, rfl⟩; exact hq9 n_) | (rintro ⟨n_, rfl⟩; exact hq10 n_) | (rintro ⟨n_, rfl⟩; exact hq11 n_) | (rintro ⟨n_, rfl⟩; exact hq12 n_) | (intro hS_; obtain ⟨n_, rfl⟩ := hS_; exact hq9 n_) | (intro hS_; obtain ⟨n_, rfl⟩ := hS_; exact hq10 n_) | (intro hS_; obtain ⟨n_, rfl⟩ := hS_; exact hq11 n_) | (intro hS_; obtain ⟨n_, rfl⟩ := hS_; exact hq12 n_))); try go_wp2)
         go_roundg k1
         case measure => have := HK1.out; omega
         case rel => exact ⟨(wrap64 (x5_1 + 1)), (by first | rfl | (simp; done) | (simp [*]; done)), H', ⟨by have := HK1.out; omega⟩, by repeat (first | exact Drawn0.refl _ | apply Drawn0.step)⟩
        ·
         rw [if_neg c8] at H
         have c8b0 : ((strOfNums ((rd_T59 l0 x5_1).f1)).toList == (strOfNums ((rd_T59 l1 x5_1).f1)).toList) = false := beq_eq_false_iff_ne.mpr c8
         have c8b1 : ((strOfNums ((rd_T59 l0 x5_1).f1)).toList != (strOfNums ((rd_T59 l1 x5_1).f1)).toList) = true := bne_iff_ne.mpr c8
         obtain rfl := Option.some.inj H
         have p527 : 0 ≤ (x5_1 : Int) := of_decide_eq_true (by first | (with_reducible assumption) | assumption)
         have q527 : x5_1 < (l0.length : Int) := of_decide_eq_true (by first | (with_reducible assumption) | assumption)
         obtain ⟨ad527, A527_0, c527_0, A527_1, c527_1, e527, hx527_0, hx527_1, hl527_0, hi527_0, hl527_1, hi527_1⟩ := at_T59 HR0.out x5_1 p527 q527
         cases e527
         have HR527_0 := Aside0.mk hi527_0
         have HC527_0 := Aside0.mk hl527_0
         clear hi527_0 hl527_0
         have HR527_1 := Aside0.mk hi527_1
         have HC527_1 := Aside0.mk hl527_1
         clear hi527_1 hl527_1
         replace p527 := eq_true p527
         replace q527 := eq_true q527
         have hcv13 := Kd.C_string (P := Try.prog) (A := A527_0) (c := c527_0) Try.underlying33 Try.underlying5 Try.underlying9 HR527_0.out
         have hq13 := fun n => Kd.C_string (P := Try.prog) (A := A527_0) (c := c527_0) Try.underlying33 Try.underlying5 Try.underlying9 (Kd.C_drewN (HR527_0.out) n)
         have p528 : 0 ≤ (x5_1 : Int) := of_decide_eq_true (by first | (with_reducible assumption) | assumption)
         have q528 : x5_1 < (l1.length : Int) := of_decide_eq_true (by first | (with_reducible assumption) | assumption)
         obtain ⟨ad528, A528_0, c528_0, A528_1, c528_1, e528, hx528_0, hx528_1, hl528_0, hi528_0, hl528_1, hi528_1⟩ := at_T59 HR1.out x5_1 p528 q528
         cases e528
         have HR528_0 := Aside0.mk hi528_0
         have HC528_0 := Aside0.mk hl528_0
         clear hi528_0 hl528_0
         have HR528_1 := Aside0.mk hi528_1
         have HC528_1 := Aside0.mk hl528_1
         clear hi528_1 hl528_1
         replace p528 := eq_true p528
         replace q528 := eq_true q528
         have hcv14 := Kd.C_string (P := Try.prog) (A := A528_0) (c := c528_0) Try.underlying33 Try.underlying5 Try.underlying9 HR528_0.out
         have hq14 := fun n => Kd.C_string (P := Try.prog) (A := A528_0) (c := c528_0) Try.underlying33 Try.underlying5 Try.underlying9 (Kd.C_drewN (HR528_0.out) n)
         have p529 : 0 ≤ (x5_1 : Int) := of_decide_eq_true (by first | (with_reducible assumption) | assumption)
         have q529 : x5_1 < (l0.length : Int) := of_decide_eq_true (by first | (with_reducible assumption) | assumption)
         obtain ⟨ad529, A529_0, c529_0, A529_1, c529_1, e529, hx529_0, hx529_1, hl529_0, hi529_0, hl529_1, hi529_1⟩ := at_T59 HR0.out x5_1 p529 q529
         obtain rfl : ad527 = ad529 := (by injection e529)
         have HR529_0 := Aside0.mk hi529_0
         have HC529_0 := Aside0.mk hl529_0
         clear hi529_0 hl529_0
         have HR529_1 := Aside0.mk hi529_1
         have HC529_1 := Aside0.mk hl529_1
         clear hi529_1 hl529_1
         replace p529 := eq_true p529
         replace q529 := eq_true q529
         have ea_ := Option.some.inj (hx527_0.symm.trans hx529_0)
         injection ea_ with ea_ en_ ec_
         subst ea_
         subst ec_
         clear en_
         have ea_ := Option.some.inj (hx527_1.symm.trans hx529_1)
         injection ea_ with ea_ en_ ec_
         subst ea_
         subst ec_
         clear en_
         have hcv15 := Kd.C_string (P := Try.prog) (A := A527_1) (c := c527_1) Try.underlying33 Try.underlying5 Try.underlying9 HR529_1.out
         have hq15 := fun n => Kd.C_string (P := Try.prog) (A := A527_1) (c := c527_1) Try.underlying33 Try.underlying5 Try.underlying9 (Kd.C_drewN (HR529_1.out) n)
         have p530 : 0 ≤ (x5_1 : Int) := of_decide_eq_true (by first | (with_reducible assumption) | assumption)
         have q530 : x5_1 < (l1.length : Int) := of_decide_eq_true (by first | (with_reducible assumption) | assumption)
         obtain ⟨ad530, A530_0, c530_0, A530_1, c530_1, e530, hx530_0, hx530_1, hl530_0, hi530_0, hl530_1, hi530_1⟩ := at_T59 HR1.out x5_1 p530 q530
         obtain rfl : ad528 = ad530 := (by injection e530)
         have HR530_0 := Aside0.mk hi530_0
         have HC530_0 := Aside0.mk hl530_0
         clear hi530_0 hl530_0
         have HR530_1 := Aside0.mk hi530_1
         have HC530_1 := Aside0.mk hl530_1
         clear hi530_1 hl530_1
         replace p530 := eq_true p530
         replace q530 := eq_true q530
         have ea_ := Option.some.inj (hx528_0.symm.trans hx530_0)
         injection ea_ with ea_ en_ ec_
         subst ea_
         subst ec_
         clear en_
         have ea_ := Option.some.inj (hx528_1.symm.trans hx530_1)
         injection ea_ with ea_ en_ ec_
         subst ea_
         subst ec_
         clear en_
         have hcv16 := Kd.C_string (P := Try.prog) (A := A528_1) (c := c528_1) Try.underlying33 Try.underlying5 Try.underlying9 HR530_1.out
         have hq16 := fun n => Kd.C_string (P := Try.prog) (A := A528_1) (c := c528_1) Try.underlying33 Try.underlying5 Try.underlying9 (Kd.C_drewN (HR530_1.out) n)
         go_wp2
         repeat (go_quiet ((first | (rintro ⟨n_, rfl⟩; exact hq13 n_) | (rintro ⟨n_, rfl⟩; exact hq14 n_) | (rintro ⟨n_, rfl⟩; exact hq15 n_) | (rintro ⟨n_, rfl⟩; exact hq16 n_) | (intro hS_; obtain ⟨n_, rfl⟩ := hS_; exact hq13 n_) | (intro hS_; obtain ⟨n_, rfl⟩ := hS_; exact hq14 n_) | (intro hS_; obtain ⟨n_, rfl⟩ := hS_; exact hq15 n_) | (intro hS_; obtain ⟨n_, rfl⟩ := hS_; exact hq16 n_))); try go_wp2)
         go_ret
         exact ⟨by first | rfl | (simp; done) | (simp [*]; done), by repeat (first | exact Drawn0.refl _ | apply Drawn0.step)⟩
       ·
        rw [if_neg c7] at H
        have c7b0 : ((strOfNums ((rd_T59 l0 x5_1).f0)).toList == (strOfNums ((rd_T59 l1 x5_1).f0)).toList) = false := beq_eq_false_iff_ne.mpr c7
        have c7b1 : ((strOfNums ((rd_T59 l0 x5_1).f0)).toList != (strOfNums ((rd_T59 l1 x5_1).f0)).toList) = true := bne_iff_ne.mpr c7
        obtain rfl := Option.some.inj H
        have p527 : 0 ≤ (x5_1 : Int) := of_decide_eq_true (by first | (with_reducible assumption) | assumption)
        have q527 : x5_1 < (l0.length : Int) := of_decide_eq_true (by first | (with_reducible assumption) | assumption)
        obtain ⟨ad527, A527_0, c527_0, A527_1, c527_1, e527, hx527_0, hx527_1, hl527_0, hi527_0, hl527_1, hi527_1⟩ := at_T59 HR0.out x5_1 p527 q527
        cases e527
        have HR527_0 := Aside0.mk hi527_0
        have HC527_0 := Aside0.mk hl527_0
        clear hi527_0 hl527_0
        have HR527_1 := Aside0.mk hi527_1
        have HC527_1 := Aside0.mk hl527_1
        clear hi527_1 hl527_1
        replace p527 := eq_true p527
        replace q527 := eq_true q527
        have hcv17 := Kd.C_string (P := Try.prog) (A := A527_0) (c := c527_0) Try.underlying33 Try.underlying5 Try.underlying9 HR527_0.out
        have hq17 := fun n => Kd.C_string (P := Try.prog) (A := A527_0) (c := c527_0) Try.underlying33 Try.underlying5 Try.underlying9 (Kd.C_drewN (HR527_0.out) n)
        have p528 : 0 ≤ (x5_1 : Int) := of_decide_eq_true (by first | (with_reducible assumption) | assumption)
        have q528 : x5_1 < (l1.length : Int) := of_decide_eq_true (by first | (with_reducible assumption) | assumption)
        obtain ⟨ad528, A528_0, c528_0, A528_1, c528_1, e528, hx528_0, hx528_1, hl528_0, hi528_0, hl528_1, hi528_1⟩ := at_T59 HR1.out x5_1 p528 q528
        cases e528
        have HR528_0 := Aside0.mk hi528_0
        have HC528_0 := Aside0.mk hl528_0
        clear hi528_0 hl528_0
        have HR528_1 := Aside0.mk hi528_1
        have HC528_1 := Aside0.mk hl528_1
        clear hi528_1 hl528_1
        replace p528 := eq_true p528
        replace q528 := eq_true q528
        have hcv18 := Kd.C_string (P := Try.prog) (A := A528_0) (c := c528_0) Try.underlying33 Try.underlying5 Try.underlying9 HR528_0.out
        have hq18 := fun n => Kd.C_string (P := Try.prog) (A := A528_0) (c := c528_0) Try.underlying33 Try.underlying5 Try.underlying9 (Kd.C_drewN (HR528_0.out) n)
        go_wp2
        repeat (go_quiet ((first | (rintro ⟨n_, rfl⟩; exact hq17 n_) | (rintro ⟨n_, rfl⟩; exact hq18 n_) | (intro hS_; obtain ⟨n_, rfl⟩ := hS_; exact hq17 n_) | (intro hS_; obtain ⟨n_, rfl⟩ := hS_; exact hq18 n_))); try go_wp2)
        go_ret
        exact ⟨by first | rfl | (simp; done) | (simp [*]; done), by repeat (first | exact Drawn0.refl _ | apply Drawn0.step)⟩
      ·
       rw [if_neg c6] at H
       exact absurd H (by simp)
     ·
      rw [if_neg c5] at H
      exact absurd H (by simp)
    ·
     rw [if_neg c4] at H
     have c4b0 : decide (x5_1 < (l0.length : Int)) = false := decide_eq_false c4
     clear c4
     obtain rfl := Option.some.inj H
     go_wp2
     repeat (go_quiet (fail); try go_wp2)
     go_ret
     exact ⟨by first | rfl | (simp; done) | (simp [*]; done), by repeat (first | exact Drawn0.refl _ | apply Drawn0.step)⟩
 ·
  rw [if_neg c3] at H
  have c3b0 : ((l0.length : Int) == (l1.length : Int)) = false := beq_eq_false_iff_ne.mpr c3
  have c3b1 : ((l0.length : Int) != (l1.length : Int)) = true := bne_iff_ne.mpr c3
  have c3b2 : (l0.length == l1.length) = false := by first | simpa using c3 | (simp at c3 ⊢; omega)
  obtain rfl := Option.some.inj H
  go_enter Try.func33, Try.ntmps33
  go_wp2
  repeat (go_quiet (fail); try go_wp2)
  go_ret
  exact ⟨by first | rfl | (simp; done) | (simp [*]; done), by repeat (first | exact Drawn0.refl _ | apply Drawn0.step)⟩

open Go.Maps (int_keyed keyOf_int_mk)
/-- Block B is a map of ints that reads as f. -/
def MapI (w : World) (B n : Nat) (f : Int → Int) : Prop := ∃ D : DataW Unit, w.ownsMap Try.prog 3 (plainElem Try.prog 3) B n D ∧ ∀ x : Int, D.atKey (.int .i64 x) (.lit (.int .i64 0)) = .lit (.int .i64 (f x))
theorem isKey {x : Int} (hw : (Lit.int .i64 x).wf = true) : WideAt.IsKeyLit (.int .i64 x) := (int_keyed (P := Try.prog) (k := 3) Try.underlying3).key (keyOf_int_mk Try.underlying3 hw)
theorem MapI.put {w w' : World} {B n : Nat} {f : Int → Int} {D : DataW Unit} {x v : Int} (hm : Go.Maps.IsMap D) (ha : ∀ y : Int, D.atKey (.int .i64 y) (.lit (.int .i64 0)) = .lit (.int .i64 (f y))) (hw : (Lit.int .i64 x).wf = true)
  (h : w'.ownsMap Try.prog 3 (plainElem Try.prog 3) B n (D.put (.int .i64 x) (.lit (.int .i64 v)))) : MapI w' B n (fun y => if y = x then v else f y) := by
 refine ⟨_, h, fun y => ?_⟩
 show _ = DataW.lit (.int .i64 (if y = x then v else f y))
 by_cases hy : y = x
 ·
  subst hy
  rw [if_pos rfl, Go.Maps.atKey_put_same hm (isKey hw)]
 ·
  rw [if_neg hy, Go.Maps.atKey_put_other (fun e => hy (by injection e)), ha]
end Go.Proofs.Ytcnmocbiekfpbaa.P

-- Written by a program of this session, after the kit's print.
import Derived.Test.YtcnmocbiekfpbaaPx0
import Derived.Test.YtcnmocbiekfpbaaP0Short
import Derived.Test.YtcnmocbiekfpbaaPx19
import Derived.Test.YtcnmocbiekfpbaaPx20
import Derived.Test.YtcnmocbiekfpbaaPx22
namespace Go.Proofs.Ytcnmocbiekfpbaa.P
open Go.RowKit Go.Proofs.YtcnmocbiekfpbaaW.PrintWords Go.Proofs.YtcnmocbiekfpbaaW.PrintLast Go.Proofs.YtcnmocbiekfpbaaW.PrintMore
attribute [local go_sem] max2_int min2_int max_two min_two max_three min_three max_four min_four   -- for this text's walks alone
set_option linter.unusedVariables false
set_option linter.unusedSimpArgs false

def twoslotref09_Put.f (k : Nat) (a0_0 : Int) (a0_1 : Int) (a0_2 : Int) (a0_3 : Int) (l0_4 : List (List Int)) (a1_0 : Int) (a1_1 : Int) (a1_2 : Int) (l1_3 : List Int) : Option (Int × Int × Int × Int × (List (List Int)) × Int) := (twoslotref09_After.f k a0_0 a0_1 a0_2 a0_3 l0_4 (([(⟨a1_0, a1_1, a1_2, l1_3⟩ : S35)] : List (S35))) 1).bind fun bt423 => (some (bt423.1, bt423.2.1, bt423.2.2.1, bt423.2.2.2.1, bt423.2.2.2.2.1, bt423.2.2.2.2.2))
set_option maxHeartbeats 8000000 in
set_option maxRecDepth 100000 in
theorem twoslotref09_Put.calls (k : Nat) (a0_0 : Int) (a0_1 : Int) (a0_2 : Int) (a0_3 : Int) (A0_4 : Option Addr) (c0_4 : Nat) (l0_4 : List (List Int)) (a1_0 : Int) (a1_1 : Int) (a1_2 : Int) (P1_3_ : Nat → Prop) (A1_3 : Option Addr) (c1_3 : Nat) (l1_3 : List Int) (r1 : Int) (r2 : Int) (r3 : Int) (r4 : Int) (r5 : List (List Int)) (r6 : Int) (w : World) (hr0_4 : Kd.C (Kd.slice 5 (Kd.int .u8)) w A0_4 l0_4.length l0_4) (hc0_4 : l0_4.length ≤ c0_4) (hs1_3 : Kd.V (Kd.int .u8) 5 w w.heap.size (fun k_ => P1_3_ k_) (.slice A1_3 l1_3.length c1_3) l1_3) (h : twoslotref09_Put.f k a0_0 a0_1 a0_2 a0_3 l0_4 a1_0 a1_1 a1_2 l1_3 = some (r1, r2, r3, r4, r5, r6)) :
  Calls Try.prog 23 #[.agg #[.int .i64 a0_0, .int .i64 a0_1, .int .i64 a0_2, .int .i64 a0_3, .slice A0_4 l0_4.length c0_4], .agg #[.int .i64 a1_0, .int .i64 a1_1, .int .i64 a1_2, .slice A1_3 l1_3.length c1_3]] w fun e w' => ∃ v4_ : Value, e = .returned (.tuple #[.agg #[.int .i64 r1, .int .i64 r2, .int .i64 r3, .int .i64 r4, v4_], .int .i64 r6]) ∧ Kd.N (Kd.slice 5 (Kd.int .u8)) 33 w' w.heap.size (fun k_ => (P1_3_ k_ ∨ w.heap.size ≤ k_)) v4_ r5 ∧ Below w.heap.size w w' := by
 have hu27 := Try.underlying27
 have hu35 := Try.underlying35
 have HR0_4 := Aside0.mk hr0_4
 have HC0_4 := Aside0.mk hc0_4
 clear hr0_4 hc0_4
 have HO1_3 := Aside0.mk (show Kd.V (Kd.int .u8) 5 w w.heap.size (fun k_ => (P1_3_ k_ ∨ w.heap.size ≤ k_)) (.slice A1_3 l1_3.length c1_3) l1_3 from Kd.V_mono hs1_3 (fun k_ hk => .inl hk))
 have HB := Aside0.mk (Below.refl w.heap.size w)
 have H : ((twoslotref09_After.f k a0_0 a0_1 a0_2 a0_3 l0_4 (([(⟨a1_0, a1_1, a1_2, l1_3⟩ : S35)] : List (S35))) 1).bind fun bt423 => (some (bt423.1, bt423.2.1, bt423.2.2.1, bt423.2.2.2.1, bt423.2.2.2.2.1, bt423.2.2.2.2.2))) = some (r1, r2, r3, r4, r5, r6) := h
 clear h
 obtain ⟨y420, hy420⟩ : ∃ y_ : List (S35), y_ = (([(⟨a1_0, a1_1, a1_2, l1_3⟩ : S35)] : List (S35))) := ⟨_, rfl⟩
 replace H : ((twoslotref09_After.f k a0_0 a0_1 a0_2 a0_3 l0_4 y420 1).bind fun bt423 => (some (bt423.1, bt423.2.1, bt423.2.2.1, bt423.2.2.2.1, bt423.2.2.2.2.1, bt423.2.2.2.2.2))) = some (r1, r2, r3, r4, r5, r6) := by first | (rw [hy420]; with_reducible exact H) | (have H2_ := (Option.bind_some _ _).symm.trans H; rw [hy420]; with_reducible exact H2_) | (have H2_ := (Option.bind_some _ _).symm.trans H; with_reducible exact H2_) | with_reducible exact H | (rw [hy420]; exact H) | exact H
 have Ny420 := Aside0.mk hy420
 clear hy420
 replace H := Option.bind_eq_some_iff.mp H
 obtain ⟨⟨t423, t424, t425, t426, t427, t430⟩, A30, H⟩ := H
 try dsimp only at H
 have A3 := Aside0.mk A30
 clear A30
 simp only [Option.some.injEq, Prod.mk.injEq] at H
 obtain ⟨rfl, rfl, rfl, rfl, rfl, rfl⟩ := H
 go_enter Try.func23, Try.ntmps23
 go_wp2_with (first | ((with_reducible refine gate_dst (N := 2) rfl ?_); refine box_event rfl (N := 2) rfl (cs := #[.int .i64 a0_0, .int .i64 a0_1, .int .i64 a0_2, .int .i64 a0_3, .slice A0_4 l0_4.length c0_4]) (t := 27) (by go_simp; try rfl) ?_; intro gb417 hg w4 hbox hb; replace HO1_3 := Aside0.mk (Kd.V_below (Kd.V_elderB (sV HO1_3.out) gb417 (Nat.le_of_eq hg.symm)) hb); have BK417 := Aside0.mk (hbox); have GW417 := Aside0.mk ((by rw [hg]; exact (sZ HB) : w.heap.size ≤ gb417)); have GE417 := Aside0.mk ((by rw [hg]; exact (sZ HB) : w.heap.size ≤ gb417)); replace HB := kH HB hb; clear hb hbox hg) | ((with_reducible refine gate_dst (N := 3) rfl ?_); refine box_event rfl (N := 3) rfl (cs := #[.int .i64 a1_0, .int .i64 a1_1, .int .i64 a1_2, .slice A1_3 l1_3.length c1_3]) (t := 35) (by go_simp; try rfl) ?_; intro gb418 hg w5 hbox hb; replace HO1_3 := Aside0.mk (Kd.V_below (Kd.V_elderB (sV HO1_3.out) gb418 (Nat.le_of_eq hg.symm)) hb); have BK418 := Aside0.mk (hbox); have GW418 := Aside0.mk ((by rw [hg]; exact (below_size (by repeat (first | exact sH HB.out | refine sN (w := w) ?_ | with_reducible refine sG (w := w) ?_ (by assumption)))) : w.heap.size ≤ gb418)); have GE418 := Aside0.mk ((by rw [hg]; exact (below_size (by repeat (first | exact sH HB.out | refine sN (w := w) ?_ | with_reducible refine sG (w := w) ?_ (by assumption)))) : w.heap.size ≤ gb418)); replace HB := Aside0.mk (below_step (by repeat (first | exact sH HB.out | refine sN (w := w) ?_ | with_reducible refine sG (w := w) ?_ (by assumption))) hb); have NB417_418 := Aside0.mk ((by rw [hg]; exact Nat.ne_of_lt (blk_lt (g := gb417) (o := .cells #[.int .i64 a0_0, .int .i64 a0_1, .int .i64 a0_2, .int .i64 a0_3, .slice A0_4 l0_4.length c0_4] 27 (0, 0)) (by first | exact BK417.out | (refine sO ?_; exact BK417.out))) : gb417 ≠ gb418)); have NB418_417 := Aside0.mk ((by rw [hg]; exact Nat.ne_of_gt (blk_lt (g := gb417) (o := .cells #[.int .i64 a0_0, .int .i64 a0_1, .int .i64 a0_2, .int .i64 a0_3, .slice A0_4 l0_4.length c0_4] 27 (0, 0)) (by first | exact BK417.out | (refine sO ?_; exact BK417.out))) : gb418 ≠ gb417)); replace BK417 := kB BK417 hb; clear hb hbox hg) | ((with_reducible refine gate_dst (N := 4) rfl ?_); refine box_event rfl (N := 4) rfl (cs := #[.int .i64 0, .int .i64 0, .int .i64 0, .int .i64 0, .slice none 0 0]) (t := 27) (by go_simp; try rfl) ?_; intro gb419 hg w6 hbox hb; replace HO1_3 := Aside0.mk (Kd.V_below (Kd.V_elderB (sV HO1_3.out) gb419 (Nat.le_of_eq hg.symm)) hb); have BK419 := Aside0.mk (hbox); have GW419 := Aside0.mk ((by rw [hg]; exact (below_size (by repeat (first | exact sH HB.out | refine sN (w := w) ?_ | with_reducible refine sG (w := w) ?_ (by assumption)))) : w.heap.size ≤ gb419)); have GE419 := Aside0.mk ((by rw [hg]; exact (below_size (by repeat (first | exact sH HB.out | refine sN (w := w) ?_ | with_reducible refine sG (w := w) ?_ (by assumption)))) : w.heap.size ≤ gb419)); replace HB := Aside0.mk (below_step (by repeat (first | exact sH HB.out | refine sN (w := w) ?_ | with_reducible refine sG (w := w) ?_ (by assumption))) hb); have NB417_419 := Aside0.mk ((by rw [hg]; exact Nat.ne_of_lt (blk_lt (g := gb417) (o := .cells #[.int .i64 a0_0, .int .i64 a0_1, .int .i64 a0_2, .int .i64 a0_3, .slice A0_4 l0_4.length c0_4] 27 (0, 0)) (by first | exact BK417.out | (refine sO ?_; exact BK417.out))) : gb417 ≠ gb419)); have NB419_417 := Aside0.mk ((by rw [hg]; exact Nat.ne_of_gt (blk_lt (g := gb417) (o := .cells #[.int .i64 a0_0, .int .i64 a0_1, .int .i64 a0_2, .int .i64 a0_3, .slice A0_4 l0_4.length c0_4] 27 (0, 0)) (by first | exact BK417.out | (refine sO ?_; exact BK417.out))) : gb419 ≠ gb417)); replace BK417 := kB BK417 hb; have NB418_419 := Aside0.mk ((by rw [hg]; exact Nat.ne_of_lt (blk_lt (g := gb418) (o := .cells #[.int .i64 a1_0, .int .i64 a1_1, .int .i64 a1_2, .slice A1_3 l1_3.length c1_3] 35 (0, 0)) (by first | exact BK418.out | (refine sO ?_; exact BK418.out))) : gb418 ≠ gb419)); have NB419_418 := Aside0.mk ((by rw [hg]; exact Nat.ne_of_gt (blk_lt (g := gb418) (o := .cells #[.int .i64 a1_0, .int .i64 a1_1, .int .i64 a1_2, .slice A1_3 l1_3.length c1_3] 35 (0, 0)) (by first | exact BK418.out | (refine sO ?_; exact BK418.out))) : gb419 ≠ gb418)); replace BK418 := kB BK418 hb; clear hb hbox hg; have hnb7 := NB417_418.out; have hnc7 := NB418_417.out; have hnb8 := NB417_419.out; have hnc8 := NB419_417.out; obtain ⟨hcz9_0, hcz9_1, hcz9_2, hcz9_3, hcz9_4, hfz9_0, hfz9_1, hfz9_2, hfz9_3, hfz9_4⟩ := cs5 BK417.out; have hnb10 := NB418_419.out; have hnc10 := NB419_418.out; obtain ⟨hcz11_0, hcz11_1, hcz11_2, hcz11_3, hfz11_0, hfz11_1, hfz11_2, hfz11_3⟩ := cs4 BK418.out) | ((with_reducible refine gate_dst (N := 8) rfl ?_); refine Kd.N_lit k35 _ 35 ?hg (N' := 8) ?hd (xs := ([(⟨a1_0, a1_1, a1_2, l1_3⟩ : S35)] : List (S35))) (inner := [.int .i64 a1_0, .int .i64 a1_1, .int .i64 a1_2, .slice A1_3 l1_3.length c1_3]) (ok := (fun k_ => (P1_3_ k_ ∨ w.heap.size ≤ k_) ∧ k_ ≠ gb417 ∧ k_ ≠ gb418 ∧ k_ ≠ gb419)) (okp := (fun k_ => (P1_3_ k_ ∨ w.heap.size ≤ k_) ∧ k_ ≠ gb417 ∧ k_ ≠ gb418 ∧ k_ ≠ gb419)) ?hr ?hp (fun _ hk => hk) ((show ∀ k_, w6.heap.size ≤ k_ → (fun k_ => (P1_3_ k_ ∨ w.heap.size ≤ k_) ∧ k_ ≠ gb417 ∧ k_ ≠ gb418 ∧ k_ ≠ gb419) k_ from fun k_ hk => ⟨(.inr (Nat.le_trans (below_size (by repeat (first | exact sH HB.out | refine sN (w := w) ?_ | with_reducible refine sG (w := w) ?_ (by assumption)))) hk)), Kd.freshB (g := gb417) (o := .cells #[.int .i64 a0_0, .int .i64 a0_1, .int .i64 a0_2, .int .i64 a0_3, .slice A0_4 l0_4.length c0_4] 27 (0, 0)) (by first | exact BK417.out | (refine sO ?_; exact BK417.out)) k_ hk, Kd.freshB (g := gb418) (o := .cells #[.int .i64 a1_0, .int .i64 a1_1, .int .i64 a1_2, .slice A1_3 l1_3.length c1_3] 35 (0, 0)) (by first | exact BK418.out | (refine sO ?_; exact BK418.out)) k_ hk, Kd.freshB (g := gb419) (o := .cells #[.int .i64 0, .int .i64 0, .int .i64 0, .int .i64 0, .slice none 0 0] 27 (0, 0)) (by first | exact BK419.out | (refine sO ?_; exact BK419.out)) k_ hk⟩) _ (Nat.le_refl _)) (Below.refl _ _) (Nat.le_refl _) (by simp) ?_; (case hd => rfl); (case hg => rfl); (case hr => first | (go_simp; done) | (go_simp; rfl)); (case hp => exact (Reps.c4 (show Kd.FK k35 _ _ (⟨a1_0, a1_1, a1_2, l1_3⟩ : S35) [.int .i64 a1_0, .int .i64 a1_1, .int .i64 a1_2, .slice A1_3 l1_3.length c1_3] from (k35_mkF _ _ (⟨a1_0, a1_1, a1_2, l1_3⟩ : S35) (Kd.V_reads' (Kd.V_mono (ok' := (fun k_ => (P1_3_ k_ ∨ w.heap.size ≤ k_) ∧ k_ ≠ gb417 ∧ k_ ≠ gb418 ∧ k_ ≠ gb419)) (HO1_3.out) (fun k_ hk => ⟨hk.1.1.1, ⟨hk.1.1.2, ⟨hk.1.2, hk.2⟩⟩⟩))).2.1 (Kd.V_F (Kd.V_mono (ok' := (fun k_ => (P1_3_ k_ ∨ w.heap.size ≤ k_) ∧ k_ ≠ gb417 ∧ k_ ≠ gb418 ∧ k_ ≠ gb419)) (HO1_3.out) (fun k_ hk => ⟨hk.1.1.1, ⟨hk.1.1.2, ⟨hk.1.2, hk.2⟩⟩⟩))))) (Reps.none _ _))); intro v421 w12 ho13 hb hg_ hnew_; clear hg_ hnew_; (first | rw [← Ny420.out] at ho13 | (simp only [Int.reduceToNat] at ho13; rw [← Ny420.out] at ho13)); replace HO1_3 := Aside0.mk (Kd.V_elder' (sV HO1_3.out) (Kd.N_base ho13) hb); have HO422 := Aside0.mk (Kd.N_lower ho13 (below_size (by repeat (first | exact sH HB.out | refine sN (w := w) ?_ | with_reducible refine sG (w := w) ?_ (by assumption))))); replace BK417 := kB BK417 hb; replace BK418 := kB BK418 hb; replace BK419 := kB BK419 hb; replace HB := Aside0.mk (below_step (by repeat (first | exact sH HB.out | refine sN (w := w) ?_ | with_reducible refine sG (w := w) ?_ (by assumption))) hb); clear hb ho13; obtain ⟨Ao14, co14, eo14⟩ := Kd.N_slice HO422.out; subst eo14) | ((with_reducible refine gate_callee (f := 24) rfl ?_); refine goesL_ (some 9) rfl rfl Try.func24 (by kernel_rfl) rfl #[.agg #[.int .i64 a0_0, .int .i64 a0_1, .int .i64 a0_2, .int .i64 a0_3, .slice A0_4 l0_4.length c0_4], .slice Ao14 y420.length co14, .int .i64 1] rfl (by (try simp only [sM]); first | done | rfl | (simp only [sT]; rfl)) ?_; (with_reducible refine (twoslotref09_After.calls k a0_0 a0_1 a0_2 a0_3 _ _ l0_4 _ _ y420 1 t423 t424 t425 t426 t427 t430 _ ?side1 ?side2 ?side3 ?side4 A3.out).mono ?_); (case side1 => exact sC (Kd.C_below HR0_4.out HB.out)); (case side2 => exact HC0_4.out); (case side3 => exact sC (Kd.N_reads' HO422.out).2.2); (case side4 => exact (Kd.N_reads' HO422.out).2.1); rintro e w15 ⟨v428, rfl, ho0, hb⟩; refine ⟨_, rfl, ?_⟩; replace HO1_3 := Aside0.mk (Kd.V_elder' (sV HO1_3.out) (Kd.N_base ho0) hb); have HO429 := Aside0.mk (Kd.N_lower (Kd.N_mono (ok' := fun k_ => (P1_3_ k_ ∨ w.heap.size ≤ k_) ∧ some k_ ≠ (.slice Ao14 y420.length co14 : Value).ownBlock ∧ k_ ≠ gb417 ∧ k_ ≠ gb418 ∧ k_ ≠ gb419) ho0 (fun k_ hk_ => ⟨(.inr (Nat.le_trans (below_size (by repeat (first | exact sH HB.out | refine sN (w := w) ?_ | with_reducible refine sG (w := w) ?_ (by assumption)))) hk_)), (Kd.fresh' (Kd.N_lt (sNk HO422.out)) k_ hk_), (Kd.freshB (g := gb417) (o := .cells #[.int .i64 a0_0, .int .i64 a0_1, .int .i64 a0_2, .int .i64 a0_3, .slice A0_4 l0_4.length c0_4] 27 (0, 0)) (by first | exact BK417.out | (refine sO ?_; exact BK417.out)) k_ hk_), (Kd.freshB (g := gb418) (o := .cells #[.int .i64 a1_0, .int .i64 a1_1, .int .i64 a1_2, .slice A1_3 l1_3.length c1_3] 35 (0, 0)) (by first | exact BK418.out | (refine sO ?_; exact BK418.out)) k_ hk_), (Kd.freshB (g := gb419) (o := .cells #[.int .i64 0, .int .i64 0, .int .i64 0, .int .i64 0, .slice none 0 0] 27 (0, 0)) (by first | exact BK419.out | (refine sO ?_; exact BK419.out)) k_ hk_)⟩)) (below_size (by repeat (first | exact sH HB.out | refine sN (w := w) ?_ | with_reducible refine sG (w := w) ?_ (by assumption))))); replace HO422 := Aside0.mk (Kd.N_elder' (sNk HO422.out) (Kd.N_base ho0) hb); replace BK417 := kB BK417 hb; replace BK418 := kB BK418 hb; replace BK419 := kB BK419 hb; replace HB := Aside0.mk (below_step (by repeat (first | exact sH HB.out | refine sN (w := w) ?_ | with_reducible refine sG (w := w) ?_ (by assumption))) hb); (try clear hb); (try clear hb2); (try clear hk); (try clear hi); (try clear ho0); obtain ⟨hcz16_0, hcz16_1, hcz16_2, hcz16_3, hcz16_4, hfz16_0, hfz16_1, hfz16_2, hfz16_3, hfz16_4⟩ := cs5 BK419.out; obtain ⟨Ao17, co17, eo17⟩ := Kd.N_slice HO429.out; subst eo17))
 refine bodyPost_ret (results_ct rfl _ _ gb419 27 #[.int .i64 t423, .int .i64 t424, .int .i64 t425, .int .i64 t426, .slice Ao17 t427.length co17] (0, 0) _ rfl (by (try refine sO ?_); refine blk_put (cs := #[.int .i64 t423, .int .i64 t424, .int .i64 t425, .int .i64 t426, .slice none 0 0]) ?_ 4 _ rfl; (try refine sO ?_); refine blk_put (cs := #[.int .i64 t423, .int .i64 t424, .int .i64 t425, .int .i64 0, .slice none 0 0]) ?_ 3 _ rfl; (try refine sO ?_); refine blk_put (cs := #[.int .i64 t423, .int .i64 t424, .int .i64 0, .int .i64 0, .slice none 0 0]) ?_ 2 _ rfl; (try refine sO ?_); refine blk_put (cs := #[.int .i64 t423, .int .i64 0, .int .i64 0, .int .i64 0, .slice none 0 0]) ?_ 1 _ rfl; (try refine sO ?_); refine blk_put (cs := #[.int .i64 0, .int .i64 0, .int .i64 0, .int .i64 0, .slice none 0 0]) ?_ 0 _ rfl; first | exact BK419.out | (refine sO ?_; exact BK419.out)) Try.underlying27 rfl (by kernel_rfl)) rfl ?_
 exact ⟨_, by first | rfl | (simp [errW_none, errW_some] <;> rfl) | (simp [*, errW_none, errW_some] <;> rfl), by (with_reducible repeat (first | apply Kd.N_alloc | apply Kd.N_drewN | apply Kd.N_drew)); exact Kd.N_mono (Kd.N_far (p := ⟨gb419, 4, none⟩) (Kd.N_far (p := ⟨gb419, 3, none⟩) (Kd.N_far (p := ⟨gb419, 2, none⟩) (Kd.N_far (p := ⟨gb419, 1, none⟩) (Kd.N_far (p := ⟨gb419, 0, none⟩) (Kd.N_mono HO429.out (fun k_ hk => (⟨hk, hk.2.2.2.2⟩ : _ ∧ k_ ≠ gb419))) (fun _ hk => hk.2) (.int .i64 t423)) (fun _ hk => hk.2) (.int .i64 t424)) (fun _ hk => hk.2) (.int .i64 t425)) (fun _ hk => hk.2) (.int .i64 t426)) (fun _ hk => hk.2) (.slice Ao17 t427.length co17)) (fun _ hk => hk.1.1), by repeat (first | exact sH HB.out | refine sN (w := w) ?_ | with_reducible refine sG (w := w) ?_ (by assumption))⟩

mutual
def twoslotref09_Wiped.j0 : Nat → Int → Bool → Int → Int → Int → Int → List (List Int) → Option (Int × Int × Int × Int × (List (List Int)) × Int)
 | 0, _, _, _, _, _, _, _ => none
 | k + 1, x1, x23, x432000, x432001, x432002, x432003, x432004 => if x23 = true then (some (0, 0, 0, 0, ([] : List (List Int)), 2)) else ((twoslotref09_Twin.f k x432000 x432001 x432002 x432003 x432004).bind fun bt435 => (twoslotref09_Wiped.l0 k x1 0 x432000 x432001 x432002 x432003 x432004 bt435.1 bt435.2.1 bt435.2.2.1 bt435.2.2.2.1 bt435.2.2.2.2))
def twoslotref09_Wiped.l0 : Nat → Int → Int → Int → Int → Int → Int → List (List Int) → Int → Int → Int → Int → List (List Int) → Option (Int × Int × Int × Int × (List (List Int)) × Int)
 | 0, _, _, _, _, _, _, _, _, _, _, _, _ => none
 | k + 1, x1, x8, x432000, x432001, x432002, x432003, x432004, x443000, x443001, x443002, x443003, x443004 => if x8 < (wrap64 (2 * x432003)) then (if 0 ≤ (wrap64 ((wrap64 ((wrap64 (x1 * x432003)) * 2)) + x8)) then (if (wrap64 ((wrap64 ((wrap64 (x1 * x432003)) * 2)) + x8)) < (x443004.length : Int) then (twoslotref09_Wiped.l0 k x1 (wrap64 (x8 + 1)) x432000 x432001 x432002 x432003 x432004 x443000 x443001 x443002 x443003 (x443004.set ((wrap64 ((wrap64 ((wrap64 (x1 * x432003)) * 2)) + x8)) : Int).toNat ([] : List Int))) else (none)) else (none)) else (some (x443000, x443001, x443002, x443003, x443004, 0))
end
def twoslotref09_Wiped.f (k : Nat) (a0_0 : Int) (a0_1 : Int) (a0_2 : Int) (a0_3 : Int) (l0_4 : List (List Int)) (a1 : Int) : Option (Int × Int × Int × Int × (List (List Int)) × Int) := (twoslotref09_Check.f k a0_0 a0_1 a0_2 a0_3 l0_4).bind fun t433 => (if t433 = 0 then (if a1 < 0 then (twoslotref09_Wiped.j0 k a1 true a0_0 a0_1 a0_2 a0_3 l0_4) else ((twoslotref06_N.f a0_0 a0_1 a0_2 a0_3).bind fun t434 => (twoslotref09_Wiped.j0 k a1 (decide (a1 ≥ t434)) a0_0 a0_1 a0_2 a0_3 l0_4))) else (some (0, 0, 0, 0, ([] : List (List Int)), t433)))
set_option maxHeartbeats 8000000 in
set_option maxRecDepth 100000 in
theorem twoslotref09_Wiped.calls (k : Nat) (a0_0 : Int) (a0_1 : Int) (a0_2 : Int) (a0_3 : Int) (A0_4 : Option Addr) (c0_4 : Nat) (l0_4 : List (List Int)) (a1 : Int) (r1 : Int) (r2 : Int) (r3 : Int) (r4 : Int) (r5 : List (List Int)) (r6 : Int) (w : World) (hr0_4 : Kd.C (Kd.slice 5 (Kd.int .u8)) w A0_4 l0_4.length l0_4) (hc0_4 : l0_4.length ≤ c0_4) (h : twoslotref09_Wiped.f k a0_0 a0_1 a0_2 a0_3 l0_4 a1 = some (r1, r2, r3, r4, r5, r6)) :
  Calls Try.prog 25 #[.agg #[.int .i64 a0_0, .int .i64 a0_1, .int .i64 a0_2, .int .i64 a0_3, .slice A0_4 l0_4.length c0_4], .int .i64 a1] w fun e w' => ∃ v4_ : Value, e = .returned (.tuple #[.agg #[.int .i64 r1, .int .i64 r2, .int .i64 r3, .int .i64 r4, v4_], .int .i64 r6]) ∧ Kd.S (Kd.slice 5 (Kd.int .u8)) 33 w' w.heap.size (fun _ => True) v4_ r5 ∧ Below w.heap.size w w' := by
 have hu27 := Try.underlying27
 have hu24 := Try.underlying24
 have HR0_4 := Aside0.mk hr0_4
 have HC0_4 := Aside0.mk hc0_4
 clear hr0_4 hc0_4
 have HB := Aside0.mk (Below.refl w.heap.size w)
 have H : ((twoslotref09_Check.f k a0_0 a0_1 a0_2 a0_3 l0_4).bind fun t433 => (if t433 = 0 then (if a1 < 0 then (twoslotref09_Wiped.j0 k a1 true a0_0 a0_1 a0_2 a0_3 l0_4) else ((twoslotref06_N.f a0_0 a0_1 a0_2 a0_3).bind fun t434 => (twoslotref09_Wiped.j0 k a1 (decide (a1 ≥ t434)) a0_0 a0_1 a0_2 a0_3 l0_4))) else (some (0, 0, 0, 0, ([] : List (List Int)), t433)))) = some (r1, r2, r3, r4, r5, r6) := h
 clear h
 replace H := Option.bind_eq_some_iff.mp H
 obtain ⟨t433, A30, H⟩ := H
 try dsimp only at H
 have A3 := Aside0.mk A30
 clear A30
 by_cases c4 : t433 = 0
 ·
  rw [if_pos c4] at H
  have c4b0 : (t433 == 0) = true := beq_iff_eq.mpr c4
  have c4b1 : (t433 != 0) = false := bne_eq_false_iff_eq.mpr c4
  clear c4
  have HC5 := Aside0.mk H
  clear H
  go_enter Try.func25, Try.ntmps25
  go_upto_region 4 with (first | ((with_reducible refine gate_dst (N := 2) rfl ?_); refine box_event rfl (N := 2) rfl (cs := #[.int .i64 a0_0, .int .i64 a0_1, .int .i64 a0_2, .int .i64 a0_3, .slice A0_4 l0_4.length c0_4]) (t := 27) (by go_simp; try rfl) ?_; intro gb431 hg w6 hbox hb; have BK431 := Aside0.mk (hbox); have GW431 := Aside0.mk ((by rw [hg]; exact (sZ HB) : w.heap.size ≤ gb431)); have GE431 := Aside0.mk ((by rw [hg]; exact (sZ HB) : w.heap.size ≤ gb431)); replace HB := kH HB hb; clear hb hbox hg) | ((with_reducible refine gate_dst (N := 4) rfl ?_); refine box_event rfl (N := 4) rfl (cs := #[.int .i64 0, .int .i64 0, .int .i64 0, .int .i64 0, .slice none 0 0]) (t := 27) (by go_simp; try rfl) ?_; intro gb432 hg w7 hbox hb; have BK432 := Aside0.mk (hbox); have GW432 := Aside0.mk ((by rw [hg]; exact (below_size (by repeat (first | exact sH HB.out | refine sN (w := w) ?_ | with_reducible refine sG (w := w) ?_ (by assumption)))) : w.heap.size ≤ gb432)); have GE432 := Aside0.mk ((by rw [hg]; exact (below_size (by repeat (first | exact sH HB.out | refine sN (w := w) ?_ | with_reducible refine sG (w := w) ?_ (by assumption)))) : w.heap.size ≤ gb432)); replace HB := Aside0.mk (below_step (by repeat (first | exact sH HB.out | refine sN (w := w) ?_ | with_reducible refine sG (w := w) ?_ (by assumption))) hb); have NB431_432 := Aside0.mk ((by rw [hg]; exact Nat.ne_of_lt (blk_lt (g := gb431) (o := .cells #[.int .i64 a0_0, .int .i64 a0_1, .int .i64 a0_2, .int .i64 a0_3, .slice A0_4 l0_4.length c0_4] 27 (0, 0)) (by first | exact BK431.out | (refine sO ?_; exact BK431.out))) : gb431 ≠ gb432)); have NB432_431 := Aside0.mk ((by rw [hg]; exact Nat.ne_of_gt (blk_lt (g := gb431) (o := .cells #[.int .i64 a0_0, .int .i64 a0_1, .int .i64 a0_2, .int .i64 a0_3, .slice A0_4 l0_4.length c0_4] 27 (0, 0)) (by first | exact BK431.out | (refine sO ?_; exact BK431.out))) : gb432 ≠ gb431)); replace BK431 := kB BK431 hb; clear hb hbox hg; have hnb8 := NB431_432.out; have hnc8 := NB432_431.out; obtain ⟨hcz9_0, hcz9_1, hcz9_2, hcz9_3, hcz9_4, hfz9_0, hfz9_1, hfz9_2, hfz9_3, hfz9_4⟩ := cs5 BK431.out) | ((with_reducible refine gate_callee (f := 27) rfl ?_); refine goesL_ (some 10) rfl rfl Try.func27 (by kernel_rfl) rfl #[.agg #[.int .i64 a0_0, .int .i64 a0_1, .int .i64 a0_2, .int .i64 a0_3, .slice A0_4 l0_4.length c0_4]] rfl (by (try simp only [sM]); first | done | rfl | (simp only [sT]; rfl)) ?_; (with_reducible refine (twoslotref09_Check.calls k a0_0 a0_1 a0_2 a0_3 _ _ l0_4 t433 _ ?side1 ?side2 A3.out).mono ?_); (case side1 => exact sC (Kd.C_below HR0_4.out HB.out)); (case side2 => exact HC0_4.out); rintro e w10 ⟨rfl, hb⟩; refine ⟨_, rfl, ?_⟩; replace BK431 := kB BK431 hb; replace BK432 := kB BK432 hb; replace HB := Aside0.mk (below_step (by repeat (first | exact sH HB.out | refine sN (w := w) ?_ | with_reducible refine sG (w := w) ?_ (by assumption))) hb); (try clear hb); (try clear hb2); (try clear hk); (try clear hi)))
  (try simp only [Act.put, List.setIfInBounds_toArray, List.set_cons_zero, List.set_cons_succ])
  go_cut [23] (fun v23 wc => ∃ (kq : Nat) (x23_4 : Bool), v23 = .bool x23_4 ∧ Aside0 (twoslotref09_Wiped.j0 kq a1 x23_4 a0_0 a0_1 a0_2 a0_3 l0_4 = some (r1, r2, r3, r4, r5, r6)) ∧ Aside0 (kq ≤ k) ∧ Aside0 (wc.heap[gb431]? = some (.cells #[.int .i64 a0_0, .int .i64 a0_1, .int .i64 a0_2, .int .i64 a0_3, (.slice A0_4 l0_4.length c0_4)] 27 (0, 0))) ∧ Aside0 (wc.heap[gb432]? = some (.cells #[.int .i64 0, .int .i64 0, .int .i64 0, .int .i64 0, (.slice none 0 0)] 27 (0, 0))) ∧ Aside0 (Below w.heap.size w wc))
  case first =>
   have H := HC5.out
   clear HC5
   by_cases c11 : a1 < 0
   ·
    rw [if_pos c11] at H
    have c11b0 : decide (a1 < 0) = true := decide_eq_true c11
    clear c11
    (first | rw [c11b0] | (simp only [i64_w, i32_w]; rw [c11b0]) | skip)
    have H' := Aside0.mk H
    clear H
    go_wp2
    go_meet
    case rel => exact ⟨_, (true), (by first | rfl | (simp; done) | (simp [*]; done)), H', ⟨by first | omega | exact Nat.le_refl _⟩, ⟨by (try refine sO ?_); exact BK431.out⟩, ⟨by (try refine sO ?_); exact BK432.out⟩, ⟨by repeat (first | exact sH HB.out | refine sN (w := w) ?_ | with_reducible refine sG (w := w) ?_ (by assumption))⟩⟩
   ·
    rw [if_neg c11] at H
    have c11b0 : decide (a1 < 0) = false := decide_eq_false c11
    clear c11
    (first | rw [c11b0] | (simp only [i64_w, i32_w]; rw [c11b0]) | skip)
    replace H := Option.bind_eq_some_iff.mp H
    obtain ⟨t434, A120, H⟩ := H
    try dsimp only at H
    have A12 := Aside0.mk A120
    clear A120
    have H' := Aside0.mk H
    clear H
    have hnb13 := NB431_432.out
    have hnc13 := NB432_431.out
    obtain ⟨hcz14_0, hcz14_1, hcz14_2, hcz14_3, hcz14_4, hfz14_0, hfz14_1, hfz14_2, hfz14_3, hfz14_4⟩ := cs5 BK431.out
    go_wp2_with (first | (go_at_call 51; (with_reducible refine (twoslotref06_N.calls a0_0 a0_1 a0_2 a0_3 t434 _ A12.out).mono ?_); rintro e w15 ⟨rfl, hb⟩; replace BK431 := kB BK431 hb; replace BK432 := kB BK432 hb; replace HB := Aside0.mk (below_step (by repeat (first | exact sH HB.out | refine sN (w := w) ?_ | with_reducible refine sG (w := w) ?_ (by assumption))) hb); (try clear hb); (try clear hb2); (try clear hk); (try clear hi)))
    go_meet
    case rel => exact ⟨_, (decide (a1 ≥ t434)), (by first | rfl | (simp; done) | (simp [*]; done)), H', ⟨by first | omega | exact Nat.le_refl _⟩, ⟨by (try refine sO ?_); exact BK431.out⟩, ⟨by (try refine sO ?_); exact BK432.out⟩, ⟨by repeat (first | exact sH HB.out | refine sN (w := w) ?_ | with_reducible refine sG (w := w) ?_ (by assumption))⟩⟩
  case rest =>
   clear HC5
   try clear c1
   try clear c2
   try clear p2
   try clear c4
   try clear c4b0
   try clear c4b1
   try clear c8
   try clear c11
   try clear c11b0
   try clear c13
   try clear hcz14_0
   try clear hcz14_1
   try clear hcz14_2
   try clear hcz14_3
   try clear hcz14_4
   try clear hcz9_0
   try clear hcz9_1
   try clear hcz9_2
   try clear hcz9_3
   try clear hcz9_4
   try clear hfz14_0
   try clear hfz14_1
   try clear hfz14_2
   try clear hfz14_3
   try clear hfz14_4
   try clear hfz9_0
   try clear hfz9_1
   try clear hfz9_2
   try clear hfz9_3
   try clear hfz9_4
   obtain ⟨kq, x23_4, rfl, HA, HJ4, BK431, BK432, HB⟩ := hcut
   cases kq with
   | zero => exact absurd HA.out (by simp [twoslotref09_Wiped.j0])
   | succ kj4 =>
    have H := HA.out
    clear HA
    simp only [twoslotref09_Wiped.j0] at H
    by_cases c16 : x23_4 = true
    ·
     subst c16
     have H1 : (some (0, 0, 0, 0, ([] : List (List Int)), 2)) = some (r1, r2, r3, r4, r5, r6) := by rw [if_pos rfl] at H; exact H
     clear H
     have H := H1
     clear H1
     simp only [Option.some.injEq, Prod.mk.injEq] at H
     obtain ⟨rfl, rfl, rfl, rfl, rfl, rfl⟩ := H
     have hnb17 := NB432_431.out
     have hnc17 := NB431_432.out
     obtain ⟨hcz18_0, hcz18_1, hcz18_2, hcz18_3, hcz18_4, hfz18_0, hfz18_1, hfz18_2, hfz18_3, hfz18_4⟩ := cs5 BK432.out
     go_wp2
     refine bodyPost_ret (results_ct rfl _ _ gb432 27 #[.int .i64 0, .int .i64 0, .int .i64 0, .int .i64 0, .slice none 0 0] (0, 0) _ rfl (by (try refine sO ?_); refine blk_put (cs := #[.int .i64 0, .int .i64 0, .int .i64 0, .int .i64 0, .slice none 0 0]) ?_ 4 _ rfl; (try refine sO ?_); refine blk_put (cs := #[.int .i64 0, .int .i64 0, .int .i64 0, .int .i64 0, .slice none 0 0]) ?_ 3 _ rfl; (try refine sO ?_); refine blk_put (cs := #[.int .i64 0, .int .i64 0, .int .i64 0, .int .i64 0, .slice none 0 0]) ?_ 2 _ rfl; (try refine sO ?_); refine blk_put (cs := #[.int .i64 0, .int .i64 0, .int .i64 0, .int .i64 0, .slice none 0 0]) ?_ 1 _ rfl; (try refine sO ?_); refine blk_put (cs := #[.int .i64 0, .int .i64 0, .int .i64 0, .int .i64 0, .slice none 0 0]) ?_ 0 _ rfl; first | exact BK432.out | (refine sO ?_; exact BK432.out)) Try.underlying27 rfl (by kernel_rfl)) rfl ?_
     exact ⟨_, by first | rfl | (simp [errW_none, errW_some] <;> rfl) | (simp [*, errW_none, errW_some] <;> rfl), by first | exact Kd.S_nil _ _ _ _ _ | exact Kd.N_nil _ _ _ _ _ | exact Kd.V_nil _ _ _ _ _ | exact Kd.Q_nil _ _ _ _ _ | exact Kd.R_nil _ _ _ _ _, by repeat (first | exact sH HB.out | refine sN (w := w) ?_ | with_reducible refine sG (w := w) ?_ (by assumption))⟩
    ·
     replace c16 := Bool.eq_false_iff.mpr c16
     subst c16
     have H1 : ((twoslotref09_Twin.f kj4 a0_0 a0_1 a0_2 a0_3 l0_4).bind fun bt435 => (twoslotref09_Wiped.l0 kj4 a1 0 a0_0 a0_1 a0_2 a0_3 l0_4 bt435.1 bt435.2.1 bt435.2.2.1 bt435.2.2.2.1 bt435.2.2.2.2)) = some (r1, r2, r3, r4, r5, r6) := by rw [if_neg (show ¬ (false = true) by decide)] at H; exact H
     clear H
     have H := H1
     clear H1
     replace H := Option.bind_eq_some_iff.mp H
     obtain ⟨⟨t435, t436, t437, t438, t439⟩, A190, H⟩ := H
     try dsimp only at H
     have A19 := Aside0.mk A190
     clear A190
     have H' := Aside0.mk H
     clear H
     have hnb20 := NB431_432.out
     have hnc20 := NB432_431.out
     obtain ⟨hcz21_0, hcz21_1, hcz21_2, hcz21_3, hcz21_4, hfz21_0, hfz21_1, hfz21_2, hfz21_3, hfz21_4⟩ := cs5 BK431.out
     go_wp2_with (first | ((with_reducible refine gate_callee (f := 20) rfl ?_); refine goesL_ (some 26) rfl rfl Try.func20 (by kernel_rfl) rfl #[.agg #[.int .i64 a0_0, .int .i64 a0_1, .int .i64 a0_2, .int .i64 a0_3, .slice A0_4 l0_4.length c0_4]] rfl (by (try simp only [sM]); first | done | rfl | (simp only [sT]; rfl)) ?_; (with_reducible refine (twoslotref09_Twin.calls kj4 a0_0 a0_1 a0_2 a0_3 _ _ l0_4 t435 t436 t437 t438 t439 _ ?side1 ?side2 A19.out).mono ?_); (case side1 => exact sC (Kd.C_below HR0_4.out HB.out)); (case side2 => exact HC0_4.out); rintro e w22 ⟨v440, rfl, ho0, hb⟩; refine ⟨_, rfl, ?_⟩; have HO441 := Aside0.mk (Kd.S_lower ho0 (below_size (by repeat (first | exact sH HB.out | refine sN (w := w) ?_ | with_reducible refine sG (w := w) ?_ (by assumption))))); replace BK431 := kB BK431 hb; replace BK432 := kB BK432 hb; replace HB := Aside0.mk (below_step (by repeat (first | exact sH HB.out | refine sN (w := w) ?_ | with_reducible refine sG (w := w) ?_ (by assumption))) hb); (try clear hb); (try clear hb2); (try clear hk); (try clear hi); (try clear ho0)) | ((with_reducible refine gate_dst (N := 7) rfl ?_); refine box_event rfl (N := 7) rfl (cs := #[.int .i64 0, .int .i64 0, .int .i64 0, .int .i64 0, .slice none 0 0]) (t := 27) (by go_simp; try rfl) ?_; intro gb442 hg w23 hbox hb; replace HO441 := Aside0.mk (Kd.S_below (sS HO441.out) hb); have BK442 := Aside0.mk (hbox); have GW442 := Aside0.mk ((by rw [hg]; exact (below_size (by repeat (first | exact sH HB.out | refine sN (w := w) ?_ | with_reducible refine sG (w := w) ?_ (by assumption)))) : w.heap.size ≤ gb442)); have GE442 := Aside0.mk ((by rw [hg]; exact (below_size (by repeat (first | exact sH HB.out | refine sN (w := w) ?_ | with_reducible refine sG (w := w) ?_ (by assumption)))) : w.heap.size ≤ gb442)); replace HB := Aside0.mk (below_step (by repeat (first | exact sH HB.out | refine sN (w := w) ?_ | with_reducible refine sG (w := w) ?_ (by assumption))) hb); have NB431_442 := Aside0.mk ((by rw [hg]; exact Nat.ne_of_lt (blk_lt (g := gb431) (o := .cells #[.int .i64 a0_0, .int .i64 a0_1, .int .i64 a0_2, .int .i64 a0_3, .slice A0_4 l0_4.length c0_4] 27 (0, 0)) (by first | exact BK431.out | (refine sO ?_; exact BK431.out))) : gb431 ≠ gb442)); have NB442_431 := Aside0.mk ((by rw [hg]; exact Nat.ne_of_gt (blk_lt (g := gb431) (o := .cells #[.int .i64 a0_0, .int .i64 a0_1, .int .i64 a0_2, .int .i64 a0_3, .slice A0_4 l0_4.length c0_4] 27 (0, 0)) (by first | exact BK431.out | (refine sO ?_; exact BK431.out))) : gb442 ≠ gb431)); replace BK431 := kB BK431 hb; have NB432_442 := Aside0.mk ((by rw [hg]; exact Nat.ne_of_lt (blk_lt (g := gb432) (o := .cells #[.int .i64 0, .int .i64 0, .int .i64 0, .int .i64 0, .slice none 0 0] 27 (0, 0)) (by first | exact BK432.out | (refine sO ?_; exact BK432.out))) : gb432 ≠ gb442)); have NB442_432 := Aside0.mk ((by rw [hg]; exact Nat.ne_of_gt (blk_lt (g := gb432) (o := .cells #[.int .i64 0, .int .i64 0, .int .i64 0, .int .i64 0, .slice none 0 0] 27 (0, 0)) (by first | exact BK432.out | (refine sO ?_; exact BK432.out))) : gb442 ≠ gb432)); replace BK432 := kB BK432 hb; clear hb hbox hg; have hnb24 := NB442_431.out; have hnc24 := NB431_442.out; have hnb25 := NB442_432.out; have hnc25 := NB432_442.out; obtain ⟨hcz26_0, hcz26_1, hcz26_2, hcz26_3, hcz26_4, hfz26_0, hfz26_1, hfz26_2, hfz26_3, hfz26_4⟩ := cs5 BK442.out; obtain ⟨Ao27, co27, eo27⟩ := Kd.S_slice HO441.out; subst eo27))
     go_loopg [8] kj4 (fun kq v8 w' => ∃ (x8_2 : Int) (x443004_2 : List (List Int)) (u443004 : Value), v8 = .int .i64 x8_2 ∧ Aside0 (twoslotref09_Wiped.l0 kq a1 x8_2 a0_0 a0_1 a0_2 a0_3 l0_4 t435 t436 t437 t438 x443004_2 = some (r1, r2, r3, r4, r5, r6)) ∧ Aside0 (kq ≤ kj4) ∧ Aside0 (Kd.S (Kd.slice 5 (Kd.int .u8)) 33 w' w.heap.size (fun _ => True) u443004 x443004_2) ∧ Aside0 (w'.heap[gb431]? = some (.cells #[.int .i64 a0_0, .int .i64 a0_1, .int .i64 a0_2, .int .i64 a0_3, (.slice A0_4 l0_4.length c0_4)] 27 (0, 0))) ∧ Aside0 (w'.heap[gb432]? = some (.cells #[.int .i64 0, .int .i64 0, .int .i64 0, .int .i64 0, (.slice none 0 0)] 27 (0, 0))) ∧ Aside0 (w'.heap[gb442]? = some (.cells #[.int .i64 t435, .int .i64 t436, .int .i64 t437, .int .i64 t438, u443004] 27 (0, 0))) ∧ Aside0 (Below w.heap.size w w'))
     case atStart => exact ⟨(0), (t439), (.slice Ao27 t439.length co27), (by first | rfl | (simp; done) | (simp [*]; done)), H', ⟨Nat.le_refl _⟩, ⟨by (with_reducible repeat (first | apply Kd.S_alloc | apply Kd.S_drewN | apply Kd.S_drew)); exact Kd.S_mono (Kd.S_far (p := ⟨gb442, 4, none⟩) (Kd.S_far (p := ⟨gb442, 3, none⟩) (Kd.S_far (p := ⟨gb442, 2, none⟩) (Kd.S_far (p := ⟨gb442, 1, none⟩) (Kd.S_far (p := ⟨gb442, 0, none⟩) (Kd.S_types HO441.out BK442.out (by decide)) (fun _ hk => hk.2) (.int .i64 t435)) (fun _ hk => hk.2) (.int .i64 t436)) (fun _ hk => hk.2) (.int .i64 t437)) (fun _ hk => hk.2) (.int .i64 t438)) (fun _ hk => hk.2) (.slice Ao27 t439.length co27)) (fun _ hk => trivial)⟩, ⟨by (try refine sO ?_); refine blk_far ?_ NB431_442.out _; (try refine sO ?_); refine blk_far ?_ NB431_442.out _; (try refine sO ?_); refine blk_far ?_ NB431_442.out _; (try refine sO ?_); refine blk_far ?_ NB431_442.out _; (try refine sO ?_); refine blk_far ?_ NB431_442.out _; (try refine sO ?_); exact BK431.out⟩, ⟨by (try refine sO ?_); refine blk_far ?_ NB432_442.out _; (try refine sO ?_); refine blk_far ?_ NB432_442.out _; (try refine sO ?_); refine blk_far ?_ NB432_442.out _; (try refine sO ?_); refine blk_far ?_ NB432_442.out _; (try refine sO ?_); refine blk_far ?_ NB432_442.out _; (try refine sO ?_); exact BK432.out⟩, ⟨by (try refine sO ?_); refine blk_put (cs := #[.int .i64 t435, .int .i64 t436, .int .i64 t437, .int .i64 t438, .slice none 0 0]) ?_ 4 _ rfl; (try refine sO ?_); refine blk_put (cs := #[.int .i64 t435, .int .i64 t436, .int .i64 t437, .int .i64 0, .slice none 0 0]) ?_ 3 _ rfl; (try refine sO ?_); refine blk_put (cs := #[.int .i64 t435, .int .i64 t436, .int .i64 0, .int .i64 0, .slice none 0 0]) ?_ 2 _ rfl; (try refine sO ?_); refine blk_put (cs := #[.int .i64 t435, .int .i64 0, .int .i64 0, .int .i64 0, .slice none 0 0]) ?_ 1 _ rfl; (try refine sO ?_); refine blk_put (cs := #[.int .i64 0, .int .i64 0, .int .i64 0, .int .i64 0, .slice none 0 0]) ?_ 0 _ rfl; (try refine sO ?_); exact BK442.out⟩, ⟨by repeat (first | exact sH HB.out | refine sN (w := w) ?_ | with_reducible refine sG (w := w) ?_ (by assumption))⟩⟩
     case round =>
      clear H'
      try clear c1
      try clear c2
      try clear p2
      try clear c4
      try clear c4b0
      try clear c4b1
      try clear c8
      try clear c11
      try clear c11b0
      try clear c13
      try clear c16
      try clear c17
      try clear c20
      try clear c24
      try clear c25
      try clear c27
      try clear hcz14_0
      try clear hcz14_1
      try clear hcz14_2
      try clear hcz14_3
      try clear hcz14_4
      try clear hcz18_0
      try clear hcz18_1
      try clear hcz18_2
      try clear hcz18_3
      try clear hcz18_4
      try clear hcz21_0
      try clear hcz21_1
      try clear hcz21_2
      try clear hcz21_3
      try clear hcz21_4
      try clear hcz26_0
      try clear hcz26_1
      try clear hcz26_2
      try clear hcz26_3
      try clear hcz26_4
      try clear hcz9_0
      try clear hcz9_1
      try clear hcz9_2
      try clear hcz9_3
      try clear hcz9_4
      try clear hfz14_0
      try clear hfz14_1
      try clear hfz14_2
      try clear hfz14_3
      try clear hfz14_4
      try clear hfz18_0
      try clear hfz18_1
      try clear hfz18_2
      try clear hfz18_3
      try clear hfz18_4
      try clear hfz21_0
      try clear hfz21_1
      try clear hfz21_2
      try clear hfz21_3
      try clear hfz21_4
      try clear hfz26_0
      try clear hfz26_1
      try clear hfz26_2
      try clear hfz26_3
      try clear hfz26_4
      try clear hfz9_0
      try clear hfz9_1
      try clear hfz9_2
      try clear hfz9_3
      try clear hfz9_4
      try clear p2
      obtain ⟨x8_2, x443004_2, u443004, rfl, HA, HK2, HO_443004, BK431, BK432, BK442, HB⟩ := hrel
      cases gk with
      | zero => exact absurd HA.out (by simp [twoslotref09_Wiped.l0])
      | succ k2 =>
       have H := HA.out
       clear HA
       simp only [twoslotref09_Wiped.l0] at H
       by_cases c28 : x8_2 < (wrap64 (2 * a0_3))
       ·
        rw [if_pos c28] at H
        have c28b0 : decide (x8_2 < (wrap64 (2 * a0_3))) = true := decide_eq_true c28
        clear c28
        obtain ⟨ji29, hji29⟩ : ∃ j_ : Int, (wrap64 ((wrap64 ((wrap64 (a1 * a0_3)) * 2)) + x8_2)) = j_ := ⟨_, rfl⟩
        replace H : (if 0 ≤ (ji29) then (if (ji29) < (x443004_2.length : Int) then (twoslotref09_Wiped.l0 k2 a1 (wrap64 (x8_2 + 1)) a0_0 a0_1 a0_2 a0_3 l0_4 t435 t436 t437 t438 (x443004_2.set ((ji29) : Int).toNat ([] : List Int))) else (none)) else (none)) = some (r1, r2, r3, r4, r5, r6) := by first | (rw [hji29] at H; exact H) | (simp only [hji29] at H ⊢; exact H)
        have hji29w : (IntKind.i64.wrap ((wrap64 ((wrap64 (a1 * a0_3)) * 2)) + x8_2)) = ji29 := (i64_w _).trans hji29
        by_cases c30 : 0 ≤ (ji29)
        ·
         rw [if_pos c30] at H
         have c30b0 : decide (0 ≤ (ji29)) = true := decide_eq_true c30
         clear c30
         by_cases c31 : (ji29) < (x443004_2.length : Int)
         ·
          rw [if_pos c31] at H
          have c31b0 : decide ((ji29) < (x443004_2.length : Int)) = true := decide_eq_true c31
          clear c31
          obtain ⟨y443, hy443⟩ : ∃ y_ : List (List Int), y_ = (x443004_2.set ((ji29) : Int).toNat ([] : List Int)) := ⟨_, rfl⟩
          replace H : (twoslotref09_Wiped.l0 k2 a1 (wrap64 (x8_2 + 1)) a0_0 a0_1 a0_2 a0_3 l0_4 t435 t436 t437 t438 y443) = some (r1, r2, r3, r4, r5, r6) := by first | (rw [hy443]; with_reducible exact H) | (have H2_ := (Option.bind_some _ _).symm.trans H; rw [hy443]; with_reducible exact H2_) | (have H2_ := (Option.bind_some _ _).symm.trans H; with_reducible exact H2_) | with_reducible exact H | (rw [hy443]; exact H) | exact H
          have Ny443 := Aside0.mk hy443
          clear hy443
          have H' := Aside0.mk H
          clear H
          have hnb33 := NB431_432.out
          have hnc33 := NB432_431.out
          have hnb34 := NB431_442.out
          have hnc34 := NB442_431.out
          obtain ⟨hcz35_0, hcz35_1, hcz35_2, hcz35_3, hcz35_4, hfz35_0, hfz35_1, hfz35_2, hfz35_3, hfz35_4⟩ := cs5 BK431.out
          have hnb36 := NB442_432.out
          have hnc36 := NB432_442.out
          obtain ⟨hcz37_0, hcz37_1, hcz37_2, hcz37_3, hcz37_4, hfz37_0, hfz37_1, hfz37_2, hfz37_3, hfz37_4⟩ := cs5 BK442.out
          have p32 : 0 ≤ ((ji29) : Int) := of_decide_eq_true (by first | (with_reducible assumption) | assumption)
          have q32 : ((ji29) : Int) < ((x443004_2.length : Int) : Int) := of_decide_eq_true (by first | (with_reducible assumption) | assumption)
          obtain ⟨go32, co32, eo32, gb32, gl32, cl32, HG32⟩ := Kd.S_form HO_443004.out (by omega)
          (first | cases eo32 | (injection eo32 with ea_ en_ ec_; (first | subst ea_ | (injection ea_ with ea_; subst ea_)); subst ec_; clear en_))
          have GB32 := Aside0.mk gb32
          have GG32 := Aside0.mk HG32
          clear gb32 gl32 HG32
          obtain ⟨_, ce32, hcl32, hM32, hcc32, hfr32, _, _⟩ := Kd.S_elem HO_443004.out [] ((ji29) : Int) p32 q32
          obtain ⟨ve32_0, rfl, ge32_0⟩ := hM32
          have hx32_0 := hcc32 0 _ rfl
          have hf32_0 := hfr32 0
          (try simp only [show ((Kd.slice 5 (Kd.int .u8))).sz = 1 from rfl, Nat.mul_one, Nat.add_zero] at hx32_0)
          (try simp only [show ((Kd.slice 5 (Kd.int .u8))).sz = 1 from rfl, Nat.mul_one, Nat.add_zero] at hf32_0)
          (try clear hcl32); (try clear hcc32); (try clear hfr32); (try clear hM32)
          replace p32 := eq_true p32
          replace q32 := eq_true q32
          have HX38 := Aside0.mk (show Kd.S (Kd.slice 5 (Kd.int .u8)) 33 wr w.heap.size (fun k_ => ((fun _ => True)) k_ ∧ ¬ ((fun _ => False)) k_) (.slice (some ⟨go32, 0, none⟩) x443004_2.length co32) x443004_2 from (by (with_reducible repeat (first | apply Kd.S_alloc | apply Kd.S_drewN | apply Kd.S_drew)); exact Kd.S_mono HO_443004.out (fun k_ hk => ⟨trivial, fun e_ => e_⟩)))
          obtain ⟨oki38, ce38, hcl38, hM38, hcc38, hfr38, hoki38, hH38⟩ := Kd.S_elem HX38.out [] ((ji29) : Int) (of_decide_eq_true (by first | (with_reducible assumption) | assumption)) (by have h_ : ((ji29) : Int) < ((x443004_2.length : Int) : Int) := of_decide_eq_true (by first | (with_reducible assumption) | assumption); first | exact h_ | (have e_ := (Kd.S_reads' HO_443004.out).1; omega) | simpa using h_)
          obtain ⟨ve38_0, rfl, ge38_0⟩ := hM38
          have HP38 := Kd.S_seg hH38 (of_decide_eq_true (by first | (with_reducible assumption) | assumption)) (by have h_ : ((ji29) : Int) < ((x443004_2.length : Int) : Int) := of_decide_eq_true (by first | (with_reducible assumption) | assumption); first | exact h_ | (have e_ := (Kd.S_reads' HO_443004.out).1; omega) | simpa using h_) (seg := [.slice none 0 0]) (j := 0) (show 1 ≤ 1 from by decide) (x' := ([] : List Int)) (Kd.M_row (Kd.R_nil _ _ _ _ _)) (fun _ hk => hk) (fun k_ hk_ => hk_.elim)
          have hx38_0 := hcc38 0 _ rfl
          (try simp only [show ((Kd.slice 5 (Kd.int .u8))).sz = 1 from rfl, Nat.mul_one, Nat.add_zero] at hx38_0)
          have hf38_0 := hfr38 0
          (try simp only [show ((Kd.slice 5 (Kd.int .u8))).sz = 1 from rfl, Nat.mul_one, Nat.add_zero] at hf38_0)
          (try clear hcl38); (try clear hcc38); (try clear hfr38); (try clear hM38); (try clear hoki38); (try clear hH38)
          (try simp only [show ((Kd.slice 5 (Kd.int .u8))).sz = 1 from rfl, Nat.mul_one, Nat.add_zero] at HP38)
          go_wp2_with (first | ((with_reducible refine gate_store (t := 33) (p := 45) rfl ?_); refine store_event (t := 33) (p := 45) (v := ?vo_w39) (w1 := (wr.setCell ⟨go32, ((ji29) : Int).toNat, none⟩ (.slice none 0 0))) ?hg ?ho ?hn ?hr ?_; (case ho => rfl); (case hg => rfl); (case hn => rfl); (case hr => first | (go_simp; done) | (go_simp; rfl)); intro w39 hw; have hg : wr.grownBy w39 (some go32) := (by rw [hw]; exact HP38.2); have hp_ : Kd.S (Kd.slice 5 (Kd.int .u8)) 33 w39 w.heap.size (fun _ => True) (.slice (some ⟨go32, 0, none⟩) x443004_2.length co32) y443 := (by rw [hw, Ny443.out]; exact HP38.1); clear HP38; replace BK431 := Aside0.mk (blk_grown (g := gb431) (o := .cells #[.int .i64 a0_0, .int .i64 a0_1, .int .i64 a0_2, .int .i64 a0_3, .slice A0_4 l0_4.length c0_4] 27 (0, 0)) (by first | exact BK431.out | (refine sO ?_; exact BK431.out)) hg (Kd.S_ne HO_443004.out BK431.out (by decide))); replace BK432 := Aside0.mk (blk_grown (g := gb432) (o := .cells #[.int .i64 0, .int .i64 0, .int .i64 0, .int .i64 0, .slice none 0 0] 27 (0, 0)) (by first | exact BK432.out | (refine sO ?_; exact BK432.out)) hg (Kd.S_ne HO_443004.out BK432.out (by decide))); replace BK442 := Aside0.mk (blk_grown (g := gb442) (o := .cells #[.int .i64 t435, .int .i64 t436, .int .i64 t437, .int .i64 t438, .slice (some ⟨go32, 0, none⟩) x443004_2.length co32] 27 (0, 0)) (by first | exact BK442.out | (refine sO ?_; exact BK442.out)) hg (Kd.S_ne HO_443004.out BK442.out (by decide))); replace HO_443004 := Aside0.mk (hp_); replace HB := Aside0.mk ((by rw [hw]; exact below_set (HB.out) GB32.out : Below w.heap.size w w39)); clear hg hw hp_))
          go_roundg k2
          case measure => have := HJ4.out; have := HK2.out; omega
          case rel => exact ⟨(wrap64 (x8_2 + 1)), (y443), (.slice (some ⟨go32, 0, none⟩) x443004_2.length co32), (by first | rfl | (simp; done) | (simp [*]; done)), H', ⟨by have := HJ4.out; have := HK2.out; omega⟩, ⟨by (with_reducible repeat (first | apply Kd.S_alloc | apply Kd.S_drewN | apply Kd.S_drew)); exact HO_443004.out⟩, ⟨by (try refine sO ?_); exact BK431.out⟩, ⟨by (try refine sO ?_); exact BK432.out⟩, ⟨by (try refine sO ?_); exact BK442.out⟩, ⟨by repeat (first | exact sH HB.out | refine sN (w := w) ?_ | with_reducible refine sG (w := w) ?_ (by assumption))⟩⟩
         ·
          rw [if_neg c31] at H
          exact absurd H (by simp)
        ·
         rw [if_neg c30] at H
         exact absurd H (by simp)
       ·
        rw [if_neg c28] at H
        have c28b0 : decide (x8_2 < (wrap64 (2 * a0_3))) = false := decide_eq_false c28
        clear c28
        simp only [Option.some.injEq, Prod.mk.injEq] at H
        obtain ⟨rfl, rfl, rfl, rfl, rfl, rfl⟩ := H
        have hnb40 := NB431_432.out
        have hnc40 := NB432_431.out
        have hnb41 := NB431_442.out
        have hnc41 := NB442_431.out
        obtain ⟨hcz42_0, hcz42_1, hcz42_2, hcz42_3, hcz42_4, hfz42_0, hfz42_1, hfz42_2, hfz42_3, hfz42_4⟩ := cs5 BK431.out
        have hnb43 := NB442_432.out
        have hnc43 := NB432_442.out
        obtain ⟨hcz44_0, hcz44_1, hcz44_2, hcz44_3, hcz44_4, hfz44_0, hfz44_1, hfz44_2, hfz44_3, hfz44_4⟩ := cs5 BK442.out; obtain ⟨hcz45_0, hcz45_1, hcz45_2, hcz45_3, hcz45_4, hfz45_0, hfz45_1, hfz45_2, hfz45_3, hfz45_4⟩ := cs5 BK432.out
        obtain ⟨Ao46, co46, eo46⟩ := Kd.S_slice HO_443004.out
        subst eo46
        go_wp2
        refine bodyPost_ret (results_ct rfl _ _ gb432 27 #[.int .i64 t435, .int .i64 t436, .int .i64 t437, .int .i64 t438, .slice Ao46 x443004_2.length co46] (0, 0) _ rfl (by (try refine sO ?_); refine blk_put (cs := #[.int .i64 t435, .int .i64 t436, .int .i64 t437, .int .i64 t438, .slice none 0 0]) ?_ 4 _ rfl; (try refine sO ?_); refine blk_put (cs := #[.int .i64 t435, .int .i64 t436, .int .i64 t437, .int .i64 0, .slice none 0 0]) ?_ 3 _ rfl; (try refine sO ?_); refine blk_put (cs := #[.int .i64 t435, .int .i64 t436, .int .i64 0, .int .i64 0, .slice none 0 0]) ?_ 2 _ rfl; (try refine sO ?_); refine blk_put (cs := #[.int .i64 t435, .int .i64 0, .int .i64 0, .int .i64 0, .slice none 0 0]) ?_ 1 _ rfl; (try refine sO ?_); refine blk_put (cs := #[.int .i64 0, .int .i64 0, .int .i64 0, .int .i64 0, .slice none 0 0]) ?_ 0 _ rfl; first | exact BK432.out | (refine sO ?_; exact BK432.out)) Try.underlying27 rfl (by kernel_rfl)) rfl ?_
        exact ⟨_, by first | rfl | (simp [errW_none, errW_some] <;> rfl) | (simp [*, errW_none, errW_some] <;> rfl), by (with_reducible repeat (first | apply Kd.S_alloc | apply Kd.S_drewN | apply Kd.S_drew)); exact Kd.S_mono (Kd.S_far (p := ⟨gb432, 4, none⟩) (Kd.S_far (p := ⟨gb432, 3, none⟩) (Kd.S_far (p := ⟨gb432, 2, none⟩) (Kd.S_far (p := ⟨gb432, 1, none⟩) (Kd.S_far (p := ⟨gb432, 0, none⟩) (Kd.S_types HO_443004.out BK432.out (by decide)) (fun _ hk => hk.2) (.int .i64 t435)) (fun _ hk => hk.2) (.int .i64 t436)) (fun _ hk => hk.2) (.int .i64 t437)) (fun _ hk => hk.2) (.int .i64 t438)) (fun _ hk => hk.2) (.slice Ao46 x443004_2.length co46)) (fun _ hk => trivial), by repeat (first | exact sH HB.out | refine sN (w := w) ?_ | with_reducible refine sG (w := w) ?_ (by assumption))⟩
 ·
  rw [if_neg c4] at H
  have c4b0 : (t433 == 0) = false := beq_eq_false_iff_ne.mpr c4
  have c4b1 : (t433 != 0) = true := bne_iff_ne.mpr c4
  simp only [Option.some.injEq, Prod.mk.injEq] at H
  obtain ⟨rfl, rfl, rfl, rfl, rfl, rfl⟩ := H
  go_enter Try.func25, Try.ntmps25
  go_wp2_with (first | ((with_reducible refine gate_dst (N := 2) rfl ?_); refine box_event rfl (N := 2) rfl (cs := #[.int .i64 a0_0, .int .i64 a0_1, .int .i64 a0_2, .int .i64 a0_3, .slice A0_4 l0_4.length c0_4]) (t := 27) (by go_simp; try rfl) ?_; intro gb431 hg w47 hbox hb; have BK431 := Aside0.mk (hbox); have GW431 := Aside0.mk ((by rw [hg]; exact (sZ HB) : w.heap.size ≤ gb431)); have GE431 := Aside0.mk ((by rw [hg]; exact (sZ HB) : w.heap.size ≤ gb431)); replace HB := kH HB hb; clear hb hbox hg) | ((with_reducible refine gate_dst (N := 4) rfl ?_); refine box_event rfl (N := 4) rfl (cs := #[.int .i64 0, .int .i64 0, .int .i64 0, .int .i64 0, .slice none 0 0]) (t := 27) (by go_simp; try rfl) ?_; intro gb432 hg w48 hbox hb; have BK432 := Aside0.mk (hbox); have GW432 := Aside0.mk ((by rw [hg]; exact (below_size (by repeat (first | exact sH HB.out | refine sN (w := w) ?_ | with_reducible refine sG (w := w) ?_ (by assumption)))) : w.heap.size ≤ gb432)); have GE432 := Aside0.mk ((by rw [hg]; exact (below_size (by repeat (first | exact sH HB.out | refine sN (w := w) ?_ | with_reducible refine sG (w := w) ?_ (by assumption)))) : w.heap.size ≤ gb432)); replace HB := Aside0.mk (below_step (by repeat (first | exact sH HB.out | refine sN (w := w) ?_ | with_reducible refine sG (w := w) ?_ (by assumption))) hb); have NB431_432 := Aside0.mk ((by rw [hg]; exact Nat.ne_of_lt (blk_lt (g := gb431) (o := .cells #[.int .i64 a0_0, .int .i64 a0_1, .int .i64 a0_2, .int .i64 a0_3, .slice A0_4 l0_4.length c0_4] 27 (0, 0)) (by first | exact BK431.out | (refine sO ?_; exact BK431.out))) : gb431 ≠ gb432)); have NB432_431 := Aside0.mk ((by rw [hg]; exact Nat.ne_of_gt (blk_lt (g := gb431) (o := .cells #[.int .i64 a0_0, .int .i64 a0_1, .int .i64 a0_2, .int .i64 a0_3, .slice A0_4 l0_4.length c0_4] 27 (0, 0)) (by first | exact BK431.out | (refine sO ?_; exact BK431.out))) : gb432 ≠ gb431)); replace BK431 := kB BK431 hb; clear hb hbox hg; have hnb49 := NB431_432.out; have hnc49 := NB432_431.out; obtain ⟨hcz50_0, hcz50_1, hcz50_2, hcz50_3, hcz50_4, hfz50_0, hfz50_1, hfz50_2, hfz50_3, hfz50_4⟩ := cs5 BK431.out) | ((with_reducible refine gate_callee (f := 27) rfl ?_); refine goesL_ (some 10) rfl rfl Try.func27 (by kernel_rfl) rfl #[.agg #[.int .i64 a0_0, .int .i64 a0_1, .int .i64 a0_2, .int .i64 a0_3, .slice A0_4 l0_4.length c0_4]] rfl (by (try simp only [sM]); first | done | rfl | (simp only [sT]; rfl)) ?_; (with_reducible refine (twoslotref09_Check.calls k a0_0 a0_1 a0_2 a0_3 _ _ l0_4 t433 _ ?side1 ?side2 A3.out).mono ?_); (case side1 => exact sC (Kd.C_below HR0_4.out HB.out)); (case side2 => exact HC0_4.out); rintro e w51 ⟨rfl, hb⟩; refine ⟨_, rfl, ?_⟩; replace BK431 := kB BK431 hb; replace BK432 := kB BK432 hb; replace HB := Aside0.mk (below_step (by repeat (first | exact sH HB.out | refine sN (w := w) ?_ | with_reducible refine sG (w := w) ?_ (by assumption))) hb); (try clear hb); (try clear hb2); (try clear hk); (try clear hi); obtain ⟨hcz52_0, hcz52_1, hcz52_2, hcz52_3, hcz52_4, hfz52_0, hfz52_1, hfz52_2, hfz52_3, hfz52_4⟩ := cs5 BK432.out))
  refine bodyPost_ret (results_ct rfl _ _ gb432 27 #[.int .i64 0, .int .i64 0, .int .i64 0, .int .i64 0, .slice none 0 0] (0, 0) _ rfl (by (try refine sO ?_); refine blk_put (cs := #[.int .i64 0, .int .i64 0, .int .i64 0, .int .i64 0, .slice none 0 0]) ?_ 4 _ rfl; (try refine sO ?_); refine blk_put (cs := #[.int .i64 0, .int .i64 0, .int .i64 0, .int .i64 0, .slice none 0 0]) ?_ 3 _ rfl; (try refine sO ?_); refine blk_put (cs := #[.int .i64 0, .int .i64 0, .int .i64 0, .int .i64 0, .slice none 0 0]) ?_ 2 _ rfl; (try refine sO ?_); refine blk_put (cs := #[.int .i64 0, .int .i64 0, .int .i64 0, .int .i64 0, .slice none 0 0]) ?_ 1 _ rfl; (try refine sO ?_); refine blk_put (cs := #[.int .i64 0, .int .i64 0, .int .i64 0, .int .i64 0, .slice none 0 0]) ?_ 0 _ rfl; first | exact BK432.out | (refine sO ?_; exact BK432.out)) Try.underlying27 rfl (by kernel_rfl)) rfl ?_
  exact ⟨_, by first | rfl | (simp [errW_none, errW_some] <;> rfl) | (simp [*, errW_none, errW_some] <;> rfl), by first | exact Kd.S_nil _ _ _ _ _ | exact Kd.N_nil _ _ _ _ _ | exact Kd.V_nil _ _ _ _ _ | exact Kd.Q_nil _ _ _ _ _ | exact Kd.R_nil _ _ _ _ _, by repeat (first | exact sH HB.out | refine sN (w := w) ?_ | with_reducible refine sG (w := w) ?_ (by assumption))⟩

end Go.Proofs.Ytcnmocbiekfpbaa.P

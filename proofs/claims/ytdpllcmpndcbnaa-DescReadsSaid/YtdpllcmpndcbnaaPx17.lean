-- Written by a program of this session, after the kit's print.
import Derived.Test.YtdpllcmpndcbnaaPx0
import Derived.Test.YtdpllcmpndcbnaaP0Short
import Derived.Test.YtdpllcmpndcbnaaPx2
import Derived.Test.YtdpllcmpndcbnaaPx5
import Derived.Test.YtdpllcmpndcbnaaPx6
import Derived.Test.YtdpllcmpndcbnaaPx7
import Derived.Test.YtdpllcmpndcbnaaPx8
import Derived.Test.YtdpllcmpndcbnaaPx15
import Derived.Test.YtdpllcmpndcbnaaPx16
namespace Go.Proofs.Ytdpllcmpndcbnaa.P
open Go.RowKit Go.Proofs.YtdpllcmpndcbnaaW.PrintWords Go.Proofs.YtdpllcmpndcbnaaW.PrintLast Go.Proofs.YtdpllcmpndcbnaaW.PrintMore
attribute [local go_sem] max2_int min2_int max_two min_two max_three min_three max_four min_four   -- for this text's walks alone
set_option linter.unusedVariables false
set_option linter.unusedSimpArgs false

mutual
def twoslotlaw15_DescReads.j0 : Nat → List Int → List Int → Int → List (S27) → Int → Int → Int → Bool → Int → Int → Int → Int → Int → Int → List (S27) → Int → Int → List (S27) → Option (Bool)
  | 0, _, _, _, _, _, _, _, _, _, _, _, _, _, _, _, _, _, _ => none
  | k + 1, x1, x8, x10, x11, x12, x14, x16, x17, x533000, x533001, x533002, x533003, x544000, x544001, x544002, x555000, x555001, x555002 => twoslotlaw15_DescReads.l0 k x1 x8 x10 x11 x12 x14 x16 x17 0 x533000 x533001 x533002 x533003 x544000 x544001 x544002 x555000 x555001 x555002
def twoslotlaw15_DescReads.l0 : Nat → List Int → List Int → Int → List (S27) → Int → Int → Int → Bool → Int → Int → Int → Int → Int → Int → Int → List (S27) → Int → Int → List (S27) → Option (Bool)
  | 0, _, _, _, _, _, _, _, _, _, _, _, _, _, _, _, _, _, _, _ => none
  | k + 1, x1, x8, x10, x11, x12, x14, x16, x17, x18, x533000, x533001, x533002, x533003, x544000, x544001, x544002, x555000, x555001, x555002 => if x18 < (x11.length : Int) then (if 0 ≤ x18 then (twoslotlaw15_DescReads.l0 k x1 x8 x10 (x11.set (x18 : Int).toNat (⟨(-9), (rd_T27 x11 x18).f1⟩ : S27)) x12 x14 x16 x17 (wrap64 (x18 + 1)) x533000 x533001 x533002 x533003 x544000 x544001 x544002 x555000 x555001 x555002) else (none)) else (twoslotlaw15_DescReads.l1 k x1 x8 x10 x12 x14 x16 x17 0 x533000 x533001 x533002 x533003 x544000 x544001 x544002 x555000 x555001 x555002)
def twoslotlaw15_DescReads.l1 : Nat → List Int → List Int → Int → Int → Int → Int → Bool → Int → Int → Int → Int → Int → Int → Int → List (S27) → Int → Int → List (S27) → Option (Bool)
  | 0, _, _, _, _, _, _, _, _, _, _, _, _, _, _, _, _, _, _ => none
  | k + 1, x1, x8, x10, x12, x14, x16, x17, x19, x533000, x533001, x533002, x533003, x544000, x544001, x544002, x555000, x555001, x555002 => if x19 < (x544002.length : Int) then (if 0 ≤ x19 then (twoslotlaw15_DescReads.l1 k x1 x8 x10 x12 x14 x16 x17 (wrap64 (x19 + 1)) x533000 x533001 x533002 x533003 x544000 x544001 (x544002.set (x19 : Int).toNat (⟨(-9), (rd_T27 x544002 x19).f1⟩ : S27)) x555000 x555001 x555002) else (none)) else ((desc_Parse.f k x533000 x533001 x533002 x533003 x8).bind fun bt563 => (if x17 = true then ((twoslotref15_Same.f k bt563.1 bt563.2.1 bt563.2.2.1 x555000 x555001 x555002).bind fun t570 => (if t570 = true then (if (strOfNums x8).toList = (strOfNums x1).toList then (if x10 = x14 then (if x12 = x16 then (some (bt563.2.2.2 == x14)) else (none)) else (none)) else (none)) else (none))) else (none)))
end
def twoslotlaw15_DescReads.f (k : Nat) (a0_0 : Int) (a0_1 : Int) (a0_2 : Int) (a0_3 : Int) (l1 : List Int) (a2 : Int) : Option (Bool) := (twoslotlaw15_alive.f k).bind fun t533 => (if t533 = true then (if (l1.length : Int) > 5000 then (some true) else ((conv_bytes.f (strOfNums l1)).bind fun t534 => ((desc_Parse.f k a0_0 a0_1 a0_2 a0_3 t534).bind fun bt537 => ((desc_Refs.f k a0_0 a0_1 a0_2 a0_3 t534 a2).bind fun bt544 => ((twoslotref15_Parse.f k a0_0 a0_1 a0_2 a0_3 l1).bind fun bt548 => ((twoslotref15_Refs.f k a0_0 a0_1 a0_2 a0_3 l1 a2).bind fun bt555 => ((twoslotref15_Same.f k bt537.1 bt537.2.1 bt537.2.2.1 bt548.1 bt548.2.1 bt548.2.2.1).bind fun t559 => (if t559 = true then ((twoslotref15_SameRefs.f k bt544.1 bt555.1).bind fun t560 => (twoslotlaw15_DescReads.j0 k l1 t534 bt537.2.2.2 bt544.1 bt544.2 bt548.2.2.2 bt555.2 t560 a0_0 a0_1 a0_2 a0_3 bt537.1 bt537.2.1 bt537.2.2.1 bt548.1 bt548.2.1 bt548.2.2.1)) else (twoslotlaw15_DescReads.j0 k l1 t534 bt537.2.2.2 bt544.1 bt544.2 bt548.2.2.2 bt555.2 false a0_0 a0_1 a0_2 a0_3 bt537.1 bt537.2.1 bt537.2.2.1 bt548.1 bt548.2.1 bt548.2.2.1))))))))) else (none))
set_option maxHeartbeats 8000000 in
set_option maxRecDepth 100000 in
theorem twoslotlaw15_DescReads.calls (k : Nat) (a0_0 : Int) (a0_1 : Int) (a0_2 : Int) (a0_3 : Int) (A1 : Option Addr) (c1 : Nat) (l1 : List Int) (a2 : Int) (r : Bool) (w : World) (hr1 : Kd.C (Kd.int .u8) w A1 l1.length l1) (hc1 : l1.length ≤ c1) (h : twoslotlaw15_DescReads.f k a0_0 a0_1 a0_2 a0_3 l1 a2 = some r) :
    Calls Try.prog 5 #[.agg #[.int .i64 a0_0, .int .i64 a0_1, .int .i64 a0_2, .int .i64 a0_3], .slice A1 l1.length c1, .int .i64 a2] w fun e w' => e = .returned (.bool r) ∧ Below w.heap.size w w' := by
  have hu24 := Try.underlying24
  have hu35 := Try.underlying35
  have HR1 := Aside0.mk hr1
  have HC1 := Aside0.mk hc1
  clear hr1 hc1
  have HB := Aside0.mk (Below.refl w.heap.size w)
  have H : ((twoslotlaw15_alive.f k).bind fun t533 => (if t533 = true then (if (l1.length : Int) > 5000 then (some true) else ((conv_bytes.f (strOfNums l1)).bind fun t534 => ((desc_Parse.f k a0_0 a0_1 a0_2 a0_3 t534).bind fun bt537 => ((desc_Refs.f k a0_0 a0_1 a0_2 a0_3 t534 a2).bind fun bt544 => ((twoslotref15_Parse.f k a0_0 a0_1 a0_2 a0_3 l1).bind fun bt548 => ((twoslotref15_Refs.f k a0_0 a0_1 a0_2 a0_3 l1 a2).bind fun bt555 => ((twoslotref15_Same.f k bt537.1 bt537.2.1 bt537.2.2.1 bt548.1 bt548.2.1 bt548.2.2.1).bind fun t559 => (if t559 = true then ((twoslotref15_SameRefs.f k bt544.1 bt555.1).bind fun t560 => (twoslotlaw15_DescReads.j0 k l1 t534 bt537.2.2.2 bt544.1 bt544.2 bt548.2.2.2 bt555.2 t560 a0_0 a0_1 a0_2 a0_3 bt537.1 bt537.2.1 bt537.2.2.1 bt548.1 bt548.2.1 bt548.2.2.1)) else (twoslotlaw15_DescReads.j0 k l1 t534 bt537.2.2.2 bt544.1 bt544.2 bt548.2.2.2 bt555.2 false a0_0 a0_1 a0_2 a0_3 bt537.1 bt537.2.1 bt537.2.2.1 bt548.1 bt548.2.1 bt548.2.2.1))))))))) else (none))) = some r := h
  clear h
  replace H := Option.bind_eq_some_iff.mp H
  obtain ⟨t533, A40, H⟩ := H
  try dsimp only at H
  have A4 := Aside0.mk A40
  clear A40
  by_cases c5 : t533 = true
  · subst c5
    have H1 : (if (l1.length : Int) > 5000 then (some true) else ((conv_bytes.f (strOfNums l1)).bind fun t534 => ((desc_Parse.f k a0_0 a0_1 a0_2 a0_3 t534).bind fun bt537 => ((desc_Refs.f k a0_0 a0_1 a0_2 a0_3 t534 a2).bind fun bt544 => ((twoslotref15_Parse.f k a0_0 a0_1 a0_2 a0_3 l1).bind fun bt548 => ((twoslotref15_Refs.f k a0_0 a0_1 a0_2 a0_3 l1 a2).bind fun bt555 => ((twoslotref15_Same.f k bt537.1 bt537.2.1 bt537.2.2.1 bt548.1 bt548.2.1 bt548.2.2.1).bind fun t559 => (if t559 = true then ((twoslotref15_SameRefs.f k bt544.1 bt555.1).bind fun t560 => (twoslotlaw15_DescReads.j0 k l1 t534 bt537.2.2.2 bt544.1 bt544.2 bt548.2.2.2 bt555.2 t560 a0_0 a0_1 a0_2 a0_3 bt537.1 bt537.2.1 bt537.2.2.1 bt548.1 bt548.2.1 bt548.2.2.1)) else (twoslotlaw15_DescReads.j0 k l1 t534 bt537.2.2.2 bt544.1 bt544.2 bt548.2.2.2 bt555.2 false a0_0 a0_1 a0_2 a0_3 bt537.1 bt537.2.1 bt537.2.2.1 bt548.1 bt548.2.1 bt548.2.2.1))))))))) = some r := by rw [if_pos rfl] at H; exact H
    clear H
    have H := H1
    clear H1
    by_cases c6 : (l1.length : Int) > 5000
    · rw [if_pos c6] at H
      have c6b0 : decide (5000 < (l1.length : Int)) = true := decide_eq_true c6
      have c6b1 : decide (5000 < l1.length) = true := decide_eq_true (by omega)
      clear c6
      obtain rfl := Option.some.inj H
      go_enter Try.func5, Try.ntmps5
      go_wp2_with (first | ((with_reducible refine gate_dst (N := 3) rfl ?_); refine box_event rfl (N := 3) rfl (cs := #[.int .i64 a0_0, .int .i64 a0_1, .int .i64 a0_2, .int .i64 a0_3]) (t := 24) (by go_simp; try rfl) ?_; intro gb532 hg w7 hbox hb; have BK532 := Aside0.mk (hbox); have GW532 := Aside0.mk ((by rw [hg]; exact (sZ HB) : w.heap.size ≤ gb532)); have GE532 := Aside0.mk ((by rw [hg]; exact (sZ HB) : w.heap.size ≤ gb532)); replace HB := kH HB hb; clear hb hbox hg) | ((with_reducible refine gate_callee (f := 9) rfl ?_); refine goesL_ (some 22) rfl rfl Try.func9 (by kernel_rfl) rfl #[] rfl (by (try simp only [sM]); first | done | rfl | (simp only [sT]; rfl)) ?_; (with_reducible refine (twoslotlaw15_alive.calls k  true _ A4.out).mono ?_); rintro e w8 ⟨rfl, hb⟩; refine ⟨_, rfl, ?_⟩; replace BK532 := kB BK532 hb; replace HB := Aside0.mk (below_step (by repeat (first | exact sH HB.out | refine sN (w := w) ?_ | with_reducible refine sG (w := w) ?_ (by assumption))) hb); (try clear hb); (try clear hb2); (try clear hk); (try clear hi)))
      go_ret
      exact ⟨by first | rfl | (simp [errW_none, errW_some] <;> rfl) | (simp [*, errW_none, errW_some] <;> rfl), by repeat (first | exact sH HB.out | refine sN (w := w) ?_ | with_reducible refine sG (w := w) ?_ (by assumption))⟩
    · rw [if_neg c6] at H
      have c6b0 : decide (5000 < (l1.length : Int)) = false := decide_eq_false c6
      have c6b1 : decide (5000 < l1.length) = false := decide_eq_false (by omega)
      clear c6
      replace H := Option.bind_eq_some_iff.mp H
      obtain ⟨t534, A90, H⟩ := H
      try dsimp only at H
      have A9 := Aside0.mk A90
      clear A90
      replace H := Option.bind_eq_some_iff.mp H
      obtain ⟨⟨t537, t538, t539, t542⟩, A100, H⟩ := H
      try dsimp only at H
      have A10 := Aside0.mk A100
      clear A100
      replace H := Option.bind_eq_some_iff.mp H
      obtain ⟨⟨t544, t547⟩, A110, H⟩ := H
      try dsimp only at H
      have A11 := Aside0.mk A110
      clear A110
      replace H := Option.bind_eq_some_iff.mp H
      obtain ⟨⟨t548, t549, t550, t553⟩, A120, H⟩ := H
      try dsimp only at H
      have A12 := Aside0.mk A120
      clear A120
      replace H := Option.bind_eq_some_iff.mp H
      obtain ⟨⟨t555, t558⟩, A130, H⟩ := H
      try dsimp only at H
      have A13 := Aside0.mk A130
      clear A130
      have HC14 := Aside0.mk H
      clear H
      go_enter Try.func5, Try.ntmps5
      go_upto_region 11 with (first | ((with_reducible refine gate_dst (N := 3) rfl ?_); refine box_event rfl (N := 3) rfl (cs := #[.int .i64 a0_0, .int .i64 a0_1, .int .i64 a0_2, .int .i64 a0_3]) (t := 24) (by go_simp; try rfl) ?_; intro gb532 hg w15 hbox hb; have BK532 := Aside0.mk (hbox); have GW532 := Aside0.mk ((by rw [hg]; exact (sZ HB) : w.heap.size ≤ gb532)); have GE532 := Aside0.mk ((by rw [hg]; exact (sZ HB) : w.heap.size ≤ gb532)); replace HB := kH HB hb; clear hb hbox hg) | ((with_reducible refine gate_callee (f := 9) rfl ?_); refine goesL_ (some 22) rfl rfl Try.func9 (by kernel_rfl) rfl #[] rfl (by (try simp only [sM]); first | done | rfl | (simp only [sT]; rfl)) ?_; (with_reducible refine (twoslotlaw15_alive.calls k  true _ A4.out).mono ?_); rintro e w16 ⟨rfl, hb⟩; refine ⟨_, rfl, ?_⟩; replace BK532 := kB BK532 hb; replace HB := Aside0.mk (below_step (by repeat (first | exact sH HB.out | refine sN (w := w) ?_ | with_reducible refine sG (w := w) ?_ (by assumption))) hb); (try clear hb); (try clear hb2); (try clear hk); (try clear hi); have hcv17 := Kd.C_string (P := Try.prog) (A := A1) (c := c1) Try.underlying29 Try.underlying5 Try.underlying9 (Kd.C_below HR1.out HB.out)) | ((with_reducible refine gate_dst (N := 30) rfl ?_); refine conv_bytesL 30 rfl rfl rfl Try.underlying9 Try.underlying29 Try.underlying5 (strOfNums l1) (by first | rfl | (go_simp; done)) A9.out ?_; intro v535 w18 ho0 hb; have HO536 := Aside0.mk (Kd.V_lower (Kd.V_mono (ok' := fun k_ => k_ ≠ gb532) ho0 (fun k_ hk_ => (Kd.freshB (g := gb532) (o := .cells #[.int .i64 a0_0, .int .i64 a0_1, .int .i64 a0_2, .int .i64 a0_3] 24 (0, 0)) (by first | exact BK532.out | (refine sO ?_; exact BK532.out)) k_ hk_))) (below_size (by repeat (first | exact sH HB.out | refine sN (w := w) ?_ | with_reducible refine sG (w := w) ?_ (by assumption))))); replace BK532 := kB BK532 hb; replace HB := Aside0.mk (below_step (by repeat (first | exact sH HB.out | refine sN (w := w) ?_ | with_reducible refine sG (w := w) ?_ (by assumption))) hb); (try clear hb); (try clear hb2); (try clear hk); (try clear hi); (try clear ho0); obtain ⟨hcz19_0, hcz19_1, hcz19_2, hcz19_3, hfz19_0, hfz19_1, hfz19_2, hfz19_3⟩ := cs4 BK532.out; obtain ⟨Ao20, co20, eo20⟩ := Kd.V_slice HO536.out; subst eo20) | ((with_reducible refine gate_callee (f := 15) rfl ?_); refine goesL_ (some 34) rfl rfl Try.func15 (by kernel_rfl) rfl #[.agg #[.int .i64 a0_0, .int .i64 a0_1, .int .i64 a0_2, .int .i64 a0_3], .slice Ao20 t534.length co20] rfl (by (try simp only [sM]); first | done | rfl | (simp only [sT]; rfl)) ?_; (with_reducible refine (desc_Parse.calls k a0_0 a0_1 a0_2 a0_3 _ _ t534 t537 t538 t539 t542 _ ?side1 ?side2 A10.out).mono ?_); (case side1 => exact sC (Kd.V_reads' HO536.out).2.2); (case side2 => exact (Kd.V_reads' HO536.out).2.1); rintro e w21 ⟨v540, rfl, ho0, hb⟩; refine ⟨_, rfl, ?_⟩; replace HO536 := Aside0.mk (Kd.V_elder' (sV HO536.out) (Kd.R_base ho0) hb); have HO541 := Aside0.mk (Kd.R_lower ho0 (below_size (by repeat (first | exact sH HB.out | refine sN (w := w) ?_ | with_reducible refine sG (w := w) ?_ (by assumption))))); replace BK532 := kB BK532 hb; replace HB := Aside0.mk (below_step (by repeat (first | exact sH HB.out | refine sN (w := w) ?_ | with_reducible refine sG (w := w) ?_ (by assumption))) hb); (try clear hb); (try clear hb2); (try clear hk); (try clear hi); (try clear ho0)) | ((with_reducible refine gate_dst (N := 9) rfl ?_); refine box_event rfl (N := 9) rfl (cs := #[.int .i64 0, .int .i64 0, .slice none 0 0]) (t := 35) (by go_simp; try rfl) ?_; intro gb543 hg w22 hbox hb; replace HO536 := Aside0.mk (Kd.V_below (Kd.V_elderB (sV HO536.out) gb543 (Nat.le_of_eq hg.symm)) hb); replace HO541 := Aside0.mk (Kd.R_below (sR HO541.out) hb); have BK543 := Aside0.mk (hbox); have GW543 := Aside0.mk ((by rw [hg]; exact (below_size (by repeat (first | exact sH HB.out | refine sN (w := w) ?_ | with_reducible refine sG (w := w) ?_ (by assumption)))) : w.heap.size ≤ gb543)); have GE543 := Aside0.mk ((by rw [hg]; exact (below_size (by repeat (first | exact sH HB.out | refine sN (w := w) ?_ | with_reducible refine sG (w := w) ?_ (by assumption)))) : w.heap.size ≤ gb543)); replace HB := Aside0.mk (below_step (by repeat (first | exact sH HB.out | refine sN (w := w) ?_ | with_reducible refine sG (w := w) ?_ (by assumption))) hb); have NB532_543 := Aside0.mk ((by rw [hg]; exact Nat.ne_of_lt (blk_lt (g := gb532) (o := .cells #[.int .i64 a0_0, .int .i64 a0_1, .int .i64 a0_2, .int .i64 a0_3] 24 (0, 0)) (by first | exact BK532.out | (refine sO ?_; exact BK532.out))) : gb532 ≠ gb543)); have NB543_532 := Aside0.mk ((by rw [hg]; exact Nat.ne_of_gt (blk_lt (g := gb532) (o := .cells #[.int .i64 a0_0, .int .i64 a0_1, .int .i64 a0_2, .int .i64 a0_3] 24 (0, 0)) (by first | exact BK532.out | (refine sO ?_; exact BK532.out))) : gb543 ≠ gb532)); replace BK532 := kB BK532 hb; clear hb hbox hg; have hnb23 := NB543_532.out; have hnc23 := NB532_543.out; obtain ⟨hcz24_0, hcz24_1, hcz24_2, hfz24_0, hfz24_1, hfz24_2⟩ := cs3 BK543.out; obtain ⟨Ao25, co25, eo25⟩ := Kd.R_slice HO541.out; subst eo25; obtain ⟨hcz26_0, hcz26_1, hcz26_2, hcz26_3, hfz26_0, hfz26_1, hfz26_2, hfz26_3⟩ := cs4 BK532.out) | ((with_reducible refine gate_callee (f := 13) rfl ?_); refine goesL_ (some 41) rfl rfl Try.func13 (by kernel_rfl) rfl #[.agg #[.int .i64 a0_0, .int .i64 a0_1, .int .i64 a0_2, .int .i64 a0_3], .slice Ao20 t534.length co20, .int .i64 a2] rfl (by (try simp only [sM]); first | done | rfl | (simp only [sT]; rfl)) ?_; (with_reducible refine (desc_Refs.calls k a0_0 a0_1 a0_2 a0_3 _ _ t534 a2 t544 t547 _ ?side1 ?side2 A11.out).mono ?_); (case side1 => refine (Kd.V_reads' (e := 5) (base := w.heap.size) (ok := fun k_ => ((k_ ≠ gb532 ∧ some k_ ≠ (.slice Ao25 t539.length co25 : Value).ownBlock) ∧ k_ ≠ gb543)) (n := t534.length) (c := co20) ?_).2.2; exact (by (with_reducible repeat (first | apply Kd.V_alloc | apply Kd.V_drewN | apply Kd.V_drew)); exact (Kd.V_mono (Kd.V_far (p := ⟨gb543, 2, none⟩) (Kd.V_far (p := ⟨gb543, 1, none⟩) (Kd.V_far (p := ⟨gb543, 0, none⟩) (Kd.V_mono HO536.out (fun k_ hk => (⟨hk, hk.2⟩ : _ ∧ k_ ≠ gb543))) (fun _ hk => hk.2) (.int .i64 t537)) (fun _ hk => hk.2) (.int .i64 t538)) (fun _ hk => hk.2) (.slice Ao25 t539.length co25)) (fun _ h_ => h_.1)))); (case side2 => exact (Kd.V_reads' HO536.out).2.1); rintro e w27 ⟨v545, rfl, ho0, hb⟩; refine ⟨_, rfl, ?_⟩; replace HO536 := Aside0.mk (Kd.V_elder' (by (with_reducible repeat (first | apply Kd.V_alloc | apply Kd.V_drewN | apply Kd.V_drew)); exact (Kd.V_mono (Kd.V_far (p := ⟨gb543, 2, none⟩) (Kd.V_far (p := ⟨gb543, 1, none⟩) (Kd.V_far (p := ⟨gb543, 0, none⟩) (Kd.V_mono HO536.out (fun k_ hk => (⟨hk, hk.2⟩ : _ ∧ k_ ≠ gb543))) (fun _ hk => hk.2) (.int .i64 t537)) (fun _ hk => hk.2) (.int .i64 t538)) (fun _ hk => hk.2) (.slice Ao25 t539.length co25)) (fun _ h_ => h_.1))) (Kd.R_base ho0) hb); have HO546 := Aside0.mk (Kd.R_lower (Kd.R_new' ho0 (Kd.R_lt (by (with_reducible repeat (first | apply Kd.R_alloc | apply Kd.R_drewN | apply Kd.R_drew)); exact (Kd.R_mono (Kd.R_far (p := ⟨gb543, 2, none⟩) (Kd.R_far (p := ⟨gb543, 1, none⟩) (Kd.R_far (p := ⟨gb543, 0, none⟩) (Kd.R_types HO541.out BK543.out (by decide)) (fun _ hk => hk.2) (.int .i64 t537)) (fun _ hk => hk.2) (.int .i64 t538)) (fun _ hk => hk.2) (.slice Ao25 t539.length co25)) (fun _ h_ => h_.1))))) (below_size (by repeat (first | exact sH HB.out | refine sN (w := w) ?_ | with_reducible refine sG (w := w) ?_ (by assumption))))); replace HO541 := Aside0.mk (Kd.R_elder' (by (with_reducible repeat (first | apply Kd.R_alloc | apply Kd.R_drewN | apply Kd.R_drew)); exact (Kd.R_mono (Kd.R_far (p := ⟨gb543, 2, none⟩) (Kd.R_far (p := ⟨gb543, 1, none⟩) (Kd.R_far (p := ⟨gb543, 0, none⟩) (Kd.R_types HO541.out BK543.out (by decide)) (fun _ hk => hk.2) (.int .i64 t537)) (fun _ hk => hk.2) (.int .i64 t538)) (fun _ hk => hk.2) (.slice Ao25 t539.length co25)) (fun _ h_ => h_.1))) (Kd.R_base ho0) hb); replace BK532 := Aside0.mk (blk_below (g := gb532) (o := .cells #[.int .i64 a0_0, .int .i64 a0_1, .int .i64 a0_2, .int .i64 a0_3] 24 (0, 0)) (by (try refine sO ?_); refine blk_far ?_ NB532_543.out _; (try refine sO ?_); refine blk_far ?_ NB532_543.out _; (try refine sO ?_); refine blk_far ?_ NB532_543.out _; first | exact BK532.out | (refine sO ?_; exact BK532.out)) hb); replace BK543 := Aside0.mk (blk_below (g := gb543) (o := .cells #[.int .i64 t537, .int .i64 t538, .slice Ao25 t539.length co25] 35 (0, 0)) (by (try refine sO ?_); refine blk_put (cs := #[.int .i64 t537, .int .i64 t538, .slice none 0 0]) ?_ 2 _ rfl; (try refine sO ?_); refine blk_put (cs := #[.int .i64 t537, .int .i64 0, .slice none 0 0]) ?_ 1 _ rfl; (try refine sO ?_); refine blk_put (cs := #[.int .i64 0, .int .i64 0, .slice none 0 0]) ?_ 0 _ rfl; first | exact BK543.out | (refine sO ?_; exact BK543.out)) hb); replace HB := Aside0.mk (below_step (by repeat (first | exact sH HB.out | refine sN (w := w) ?_ | with_reducible refine sG (w := w) ?_ (by assumption))) hb); (try clear hb); (try clear hb2); (try clear hk); (try clear hi); (try clear ho0); obtain ⟨hcz28_0, hcz28_1, hcz28_2, hcz28_3, hfz28_0, hfz28_1, hfz28_2, hfz28_3⟩ := cs4 BK532.out) | ((with_reducible refine gate_callee (f := 22) rfl ?_); refine goesL_ (some 47) rfl rfl Try.func22 (by kernel_rfl) rfl #[.agg #[.int .i64 a0_0, .int .i64 a0_1, .int .i64 a0_2, .int .i64 a0_3], .slice A1 l1.length c1] rfl (by (try simp only [sM]); first | done | rfl | (simp only [sT]; rfl)) ?_; (with_reducible refine (twoslotref15_Parse.calls k a0_0 a0_1 a0_2 a0_3 _ _ l1 t548 t549 t550 t553 _ ?side1 ?side2 A12.out).mono ?_); (case side1 => exact sC (Kd.C_below HR1.out HB.out)); (case side2 => exact HC1.out); rintro e w29 ⟨v551, rfl, ho0, hb⟩; refine ⟨_, rfl, ?_⟩; replace HO536 := Aside0.mk (Kd.V_elder' (sV HO536.out) (Kd.R_base ho0) hb); have HO552 := Aside0.mk (Kd.R_lower (Kd.R_new' (Kd.R_new' ho0 (Kd.R_lt (sR HO541.out))) (Kd.R_lt (sR HO546.out))) (below_size (by repeat (first | exact sH HB.out | refine sN (w := w) ?_ | with_reducible refine sG (w := w) ?_ (by assumption))))); replace HO541 := Aside0.mk (Kd.R_elder' (sR HO541.out) (Kd.R_base ho0) hb); replace HO546 := Aside0.mk (Kd.R_elder' (sR HO546.out) (Kd.R_base ho0) hb); replace BK532 := kB BK532 hb; replace BK543 := kB BK543 hb; replace HB := Aside0.mk (below_step (by repeat (first | exact sH HB.out | refine sN (w := w) ?_ | with_reducible refine sG (w := w) ?_ (by assumption))) hb); (try clear hb); (try clear hb2); (try clear hk); (try clear hi); (try clear ho0)) | ((with_reducible refine gate_dst (N := 13) rfl ?_); refine box_event rfl (N := 13) rfl (cs := #[.int .i64 0, .int .i64 0, .slice none 0 0]) (t := 35) (by go_simp; try rfl) ?_; intro gb554 hg w30 hbox hb; replace HO536 := Aside0.mk (Kd.V_below (Kd.V_elderB (sV HO536.out) gb554 (Nat.le_of_eq hg.symm)) hb); replace HO541 := Aside0.mk (Kd.R_below (sR HO541.out) hb); replace HO546 := Aside0.mk (Kd.R_below (sR HO546.out) hb); replace HO552 := Aside0.mk (Kd.R_below (sR HO552.out) hb); have BK554 := Aside0.mk (hbox); have GW554 := Aside0.mk ((by rw [hg]; exact (below_size (by repeat (first | exact sH HB.out | refine sN (w := w) ?_ | with_reducible refine sG (w := w) ?_ (by assumption)))) : w.heap.size ≤ gb554)); have GE554 := Aside0.mk ((by rw [hg]; exact (below_size (by repeat (first | exact sH HB.out | refine sN (w := w) ?_ | with_reducible refine sG (w := w) ?_ (by assumption)))) : w.heap.size ≤ gb554)); replace HB := Aside0.mk (below_step (by repeat (first | exact sH HB.out | refine sN (w := w) ?_ | with_reducible refine sG (w := w) ?_ (by assumption))) hb); have NB532_554 := Aside0.mk ((by rw [hg]; exact Nat.ne_of_lt (blk_lt (g := gb532) (o := .cells #[.int .i64 a0_0, .int .i64 a0_1, .int .i64 a0_2, .int .i64 a0_3] 24 (0, 0)) (by first | exact BK532.out | (refine sO ?_; exact BK532.out))) : gb532 ≠ gb554)); have NB554_532 := Aside0.mk ((by rw [hg]; exact Nat.ne_of_gt (blk_lt (g := gb532) (o := .cells #[.int .i64 a0_0, .int .i64 a0_1, .int .i64 a0_2, .int .i64 a0_3] 24 (0, 0)) (by first | exact BK532.out | (refine sO ?_; exact BK532.out))) : gb554 ≠ gb532)); replace BK532 := kB BK532 hb; have NB543_554 := Aside0.mk ((by rw [hg]; exact Nat.ne_of_lt (blk_lt (g := gb543) (o := .cells #[.int .i64 t537, .int .i64 t538, .slice Ao25 t539.length co25] 35 (0, 0)) (by first | exact BK543.out | (refine sO ?_; exact BK543.out))) : gb543 ≠ gb554)); have NB554_543 := Aside0.mk ((by rw [hg]; exact Nat.ne_of_gt (blk_lt (g := gb543) (o := .cells #[.int .i64 t537, .int .i64 t538, .slice Ao25 t539.length co25] 35 (0, 0)) (by first | exact BK543.out | (refine sO ?_; exact BK543.out))) : gb554 ≠ gb543)); replace BK543 := kB BK543 hb; clear hb hbox hg; have hnb31 := NB554_532.out; have hnc31 := NB532_554.out; have hnb32 := NB554_543.out; have hnc32 := NB543_554.out; obtain ⟨hcz33_0, hcz33_1, hcz33_2, hfz33_0, hfz33_1, hfz33_2⟩ := cs3 BK554.out; obtain ⟨Ao34, co34, eo34⟩ := Kd.R_slice HO552.out; subst eo34; obtain ⟨hcz35_0, hcz35_1, hcz35_2, hcz35_3, hfz35_0, hfz35_1, hfz35_2, hfz35_3⟩ := cs4 BK532.out) | ((with_reducible refine gate_callee (f := 23) rfl ?_); refine goesL_ (some 54) rfl rfl Try.func23 (by kernel_rfl) rfl #[.agg #[.int .i64 a0_0, .int .i64 a0_1, .int .i64 a0_2, .int .i64 a0_3], .slice A1 l1.length c1, .int .i64 a2] rfl (by (try simp only [sM]); first | done | rfl | (simp only [sT]; rfl)) ?_; (with_reducible refine (twoslotref15_Refs.calls k a0_0 a0_1 a0_2 a0_3 _ _ l1 a2 t555 t558 _ ?side1 ?side2 A13.out).mono ?_); (case side1 => exact Kd.C_below HR1.out (by repeat (first | exact sH HB.out | refine sN (w := w) ?_ | with_reducible refine sG (w := w) ?_ (by assumption)))); (case side2 => exact HC1.out); rintro e w36 ⟨v556, rfl, ho0, hb⟩; refine ⟨_, rfl, ?_⟩; replace HO536 := Aside0.mk (Kd.V_elder' (by (with_reducible repeat (first | apply Kd.V_alloc | apply Kd.V_drewN | apply Kd.V_drew)); exact (Kd.V_mono (Kd.V_far (p := ⟨gb554, 2, none⟩) (Kd.V_far (p := ⟨gb554, 1, none⟩) (Kd.V_far (p := ⟨gb554, 0, none⟩) (Kd.V_mono HO536.out (fun k_ hk => (⟨hk, hk.2⟩ : _ ∧ k_ ≠ gb554))) (fun _ hk => hk.2) (.int .i64 t548)) (fun _ hk => hk.2) (.int .i64 t549)) (fun _ hk => hk.2) (.slice Ao34 t550.length co34)) (fun _ h_ => h_.1))) (Kd.R_base ho0) hb); have HO557 := Aside0.mk (Kd.R_lower (Kd.R_new' (Kd.R_new' (Kd.R_new' ho0 (Kd.R_lt (by (with_reducible repeat (first | apply Kd.R_alloc | apply Kd.R_drewN | apply Kd.R_drew)); exact (Kd.R_mono (Kd.R_far (p := ⟨gb554, 2, none⟩) (Kd.R_far (p := ⟨gb554, 1, none⟩) (Kd.R_far (p := ⟨gb554, 0, none⟩) (Kd.R_types HO541.out BK554.out (by decide)) (fun _ hk => hk.2) (.int .i64 t548)) (fun _ hk => hk.2) (.int .i64 t549)) (fun _ hk => hk.2) (.slice Ao34 t550.length co34)) (fun _ h_ => h_.1))))) (Kd.R_lt (by (with_reducible repeat (first | apply Kd.R_alloc | apply Kd.R_drewN | apply Kd.R_drew)); exact (Kd.R_mono (Kd.R_far (p := ⟨gb554, 2, none⟩) (Kd.R_far (p := ⟨gb554, 1, none⟩) (Kd.R_far (p := ⟨gb554, 0, none⟩) (Kd.R_types HO546.out BK554.out (by decide)) (fun _ hk => hk.2) (.int .i64 t548)) (fun _ hk => hk.2) (.int .i64 t549)) (fun _ hk => hk.2) (.slice Ao34 t550.length co34)) (fun _ h_ => h_.1))))) (Kd.R_lt (by (with_reducible repeat (first | apply Kd.R_alloc | apply Kd.R_drewN | apply Kd.R_drew)); exact (Kd.R_mono (Kd.R_far (p := ⟨gb554, 2, none⟩) (Kd.R_far (p := ⟨gb554, 1, none⟩) (Kd.R_far (p := ⟨gb554, 0, none⟩) (Kd.R_types HO552.out BK554.out (by decide)) (fun _ hk => hk.2) (.int .i64 t548)) (fun _ hk => hk.2) (.int .i64 t549)) (fun _ hk => hk.2) (.slice Ao34 t550.length co34)) (fun _ h_ => h_.1))))) (below_size (by repeat (first | exact sH HB.out | refine sN (w := w) ?_ | with_reducible refine sG (w := w) ?_ (by assumption))))); replace HO541 := Aside0.mk (Kd.R_elder' (by (with_reducible repeat (first | apply Kd.R_alloc | apply Kd.R_drewN | apply Kd.R_drew)); exact (Kd.R_mono (Kd.R_far (p := ⟨gb554, 2, none⟩) (Kd.R_far (p := ⟨gb554, 1, none⟩) (Kd.R_far (p := ⟨gb554, 0, none⟩) (Kd.R_types HO541.out BK554.out (by decide)) (fun _ hk => hk.2) (.int .i64 t548)) (fun _ hk => hk.2) (.int .i64 t549)) (fun _ hk => hk.2) (.slice Ao34 t550.length co34)) (fun _ h_ => h_.1))) (Kd.R_base ho0) hb); replace HO546 := Aside0.mk (Kd.R_elder' (by (with_reducible repeat (first | apply Kd.R_alloc | apply Kd.R_drewN | apply Kd.R_drew)); exact (Kd.R_mono (Kd.R_far (p := ⟨gb554, 2, none⟩) (Kd.R_far (p := ⟨gb554, 1, none⟩) (Kd.R_far (p := ⟨gb554, 0, none⟩) (Kd.R_types HO546.out BK554.out (by decide)) (fun _ hk => hk.2) (.int .i64 t548)) (fun _ hk => hk.2) (.int .i64 t549)) (fun _ hk => hk.2) (.slice Ao34 t550.length co34)) (fun _ h_ => h_.1))) (Kd.R_base ho0) hb); replace HO552 := Aside0.mk (Kd.R_elder' (by (with_reducible repeat (first | apply Kd.R_alloc | apply Kd.R_drewN | apply Kd.R_drew)); exact (Kd.R_mono (Kd.R_far (p := ⟨gb554, 2, none⟩) (Kd.R_far (p := ⟨gb554, 1, none⟩) (Kd.R_far (p := ⟨gb554, 0, none⟩) (Kd.R_types HO552.out BK554.out (by decide)) (fun _ hk => hk.2) (.int .i64 t548)) (fun _ hk => hk.2) (.int .i64 t549)) (fun _ hk => hk.2) (.slice Ao34 t550.length co34)) (fun _ h_ => h_.1))) (Kd.R_base ho0) hb); replace BK532 := Aside0.mk (blk_below (g := gb532) (o := .cells #[.int .i64 a0_0, .int .i64 a0_1, .int .i64 a0_2, .int .i64 a0_3] 24 (0, 0)) (by (try refine sO ?_); refine blk_far ?_ NB532_554.out _; (try refine sO ?_); refine blk_far ?_ NB532_554.out _; (try refine sO ?_); refine blk_far ?_ NB532_554.out _; first | exact BK532.out | (refine sO ?_; exact BK532.out)) hb); replace BK543 := Aside0.mk (blk_below (g := gb543) (o := .cells #[.int .i64 t537, .int .i64 t538, .slice Ao25 t539.length co25] 35 (0, 0)) (by (try refine sO ?_); refine blk_far ?_ NB543_554.out _; (try refine sO ?_); refine blk_far ?_ NB543_554.out _; (try refine sO ?_); refine blk_far ?_ NB543_554.out _; first | exact BK543.out | (refine sO ?_; exact BK543.out)) hb); replace BK554 := Aside0.mk (blk_below (g := gb554) (o := .cells #[.int .i64 t548, .int .i64 t549, .slice Ao34 t550.length co34] 35 (0, 0)) (by (try refine sO ?_); refine blk_put (cs := #[.int .i64 t548, .int .i64 t549, .slice none 0 0]) ?_ 2 _ rfl; (try refine sO ?_); refine blk_put (cs := #[.int .i64 t548, .int .i64 0, .slice none 0 0]) ?_ 1 _ rfl; (try refine sO ?_); refine blk_put (cs := #[.int .i64 0, .int .i64 0, .slice none 0 0]) ?_ 0 _ rfl; first | exact BK554.out | (refine sO ?_; exact BK554.out)) hb); replace HB := Aside0.mk (below_step (by repeat (first | exact sH HB.out | refine sN (w := w) ?_ | with_reducible refine sG (w := w) ?_ (by assumption))) hb); (try clear hb); (try clear hb2); (try clear hk); (try clear hi); (try clear ho0)))
      (try simp only [Act.put, List.setIfInBounds_toArray, List.set_cons_zero, List.set_cons_succ])
      go_cut [17] (fun v17 wc => ∃ (kq : Nat) (x17_13 : Bool), v17 = .bool x17_13 ∧ Aside0 (twoslotlaw15_DescReads.j0 kq l1 t534 t542 t544 t547 t553 t558 x17_13 a0_0 a0_1 a0_2 a0_3 t537 t538 t539 t548 t549 t550 = some r) ∧ Aside0 (kq ≤ k) ∧ Aside0 (Kd.V (Kd.int .u8) 5 wc w.heap.size (fun k_ => some k_ ≠ (v545 : Value).ownBlock ∧ some k_ ≠ ((.slice Ao25 t539.length co25) : Value).ownBlock ∧ some k_ ≠ ((.slice Ao34 t550.length co34) : Value).ownBlock ∧ k_ ≠ gb532 ∧ k_ ≠ gb543 ∧ k_ ≠ gb554) (.slice Ao20 t534.length co20) t534) ∧ Aside0 (Kd.R k27 27 wc w.heap.size (fun k_ => some k_ ≠ ((.slice Ao25 t539.length co25) : Value).ownBlock ∧ some k_ ≠ ((.slice Ao34 t550.length co34) : Value).ownBlock) v545 t544) ∧ Aside0 (Kd.R k27 27 wc w.heap.size (fun k_ => some k_ ≠ (v545 : Value).ownBlock ∧ some k_ ≠ ((.slice Ao34 t550.length co34) : Value).ownBlock) (.slice Ao25 t539.length co25) t539) ∧ Aside0 (Kd.R k27 27 wc w.heap.size (fun k_ => some k_ ≠ (v545 : Value).ownBlock ∧ some k_ ≠ ((.slice Ao25 t539.length co25) : Value).ownBlock) (.slice Ao34 t550.length co34) t550) ∧ Aside0 (wc.heap[gb532]? = some (.cells #[.int .i64 a0_0, .int .i64 a0_1, .int .i64 a0_2, .int .i64 a0_3] 24 (0, 0))) ∧ Aside0 (wc.heap[gb543]? = some (.cells #[.int .i64 t537, .int .i64 t538, (.slice Ao25 t539.length co25)] 35 (0, 0))) ∧ Aside0 (wc.heap[gb554]? = some (.cells #[.int .i64 t548, .int .i64 t549, (.slice Ao34 t550.length co34)] 35 (0, 0))) ∧ Aside0 (Below w.heap.size w wc))
      case first =>
        have H := HC14.out
        clear HC14
        replace H := Option.bind_eq_some_iff.mp H
        obtain ⟨t559, A370, H⟩ := H
        try dsimp only at H
        have A37 := Aside0.mk A370
        clear A370
        by_cases c38 : t559 = true
        · subst c38
          have H1 : ((twoslotref15_SameRefs.f k t544 t555).bind fun t560 => (twoslotlaw15_DescReads.j0 k l1 t534 t542 t544 t547 t553 t558 t560 a0_0 a0_1 a0_2 a0_3 t537 t538 t539 t548 t549 t550)) = some r := by rw [if_pos rfl] at H; exact H
          clear H
          have H := H1
          clear H1
          replace H := Option.bind_eq_some_iff.mp H
          obtain ⟨t560, A390, H⟩ := H
          try dsimp only at H
          have A39 := Aside0.mk A390
          clear A390
          have H' := Aside0.mk H
          clear H
          have hnb40 := NB543_532.out
          have hnc40 := NB532_543.out
          have hnb41 := NB543_554.out
          have hnc41 := NB554_543.out
          obtain ⟨hcz42_0, hcz42_1, hcz42_2, hfz42_0, hfz42_1, hfz42_2⟩ := cs3 BK543.out
          have hnb43 := NB554_532.out
          have hnc43 := NB532_554.out
          obtain ⟨hcz44_0, hcz44_1, hcz44_2, hfz44_0, hfz44_1, hfz44_2⟩ := cs3 BK554.out
          go_wp2_with (first | ((with_reducible refine gate_callee (f := 24) rfl ?_); refine goesL_ (some 59) rfl rfl Try.func24 (by kernel_rfl) rfl #[.agg #[.int .i64 t537, .int .i64 t538, .slice Ao25 t539.length co25], .agg #[.int .i64 t548, .int .i64 t549, .slice Ao34 t550.length co34]] rfl (by (try simp only [sM]); first | done | rfl | (simp only [sT]; rfl)) ?_; (with_reducible refine (twoslotref15_Same.calls k t537 t538 _ _ t539 t548 t549 _ _ t550 true _ ?side1 ?side2 ?side3 ?side4 A37.out).mono ?_); (case side1 => exact sC (Kd.R_reads' HO541.out).2.2); (case side2 => exact (Kd.R_reads' HO541.out).2.1); (case side3 => exact sC (Kd.R_reads' HO552.out).2.2); (case side4 => exact (Kd.R_reads' HO552.out).2.1); rintro e w45 ⟨rfl, hb⟩; refine ⟨_, rfl, ?_⟩; replace HO536 := Aside0.mk (Kd.V_below (sV HO536.out) hb); replace HO541 := Aside0.mk (Kd.R_below (sR HO541.out) hb); replace HO546 := Aside0.mk (Kd.R_below (sR HO546.out) hb); replace HO552 := Aside0.mk (Kd.R_below (sR HO552.out) hb); replace HO557 := Aside0.mk (Kd.R_below (sR HO557.out) hb); replace BK532 := kB BK532 hb; replace BK543 := kB BK543 hb; replace BK554 := kB BK554 hb; replace HB := Aside0.mk (below_step (by repeat (first | exact sH HB.out | refine sN (w := w) ?_ | with_reducible refine sG (w := w) ?_ (by assumption))) hb); (try clear hb); (try clear hb2); (try clear hk); (try clear hi); obtain ⟨Ao46, co46, eo46⟩ := Kd.R_slice HO546.out; subst eo46; obtain ⟨Ao47, co47, eo47⟩ := Kd.R_slice HO557.out; subst eo47) | (go_at_call 25; (with_reducible refine (twoslotref15_SameRefs.calls k _ _ t544 _ _ t555 t560 _ ?side1 ?side2 ?side3 ?side4 A39.out).mono ?_); (case side1 => exact sC (Kd.R_reads' HO546.out).2.2); (case side2 => exact (Kd.R_reads' HO546.out).2.1); (case side3 => exact sC (Kd.R_reads' HO557.out).2.2); (case side4 => exact (Kd.R_reads' HO557.out).2.1); rintro e w' ⟨rfl, ⟨nd, rfl⟩⟩))
          go_meet
          case rel => exact ⟨_, (t560), (by first | rfl | (simp; done) | (simp [*]; done)), H', ⟨by first | omega | exact Nat.le_refl _⟩, ⟨by (with_reducible repeat (first | apply Kd.V_alloc | apply Kd.V_drewN | apply Kd.V_drew)); exact Kd.V_mono HO536.out (fun _ hk => ⟨hk.1.1.1.2, ⟨hk.1.1.1.1.1.2, ⟨hk.1.1.2, ⟨hk.1.1.1.1.1.1, ⟨hk.1.1.1.1.2, hk.1.2⟩⟩⟩⟩⟩)⟩, ⟨by (with_reducible repeat (first | apply Kd.R_alloc | apply Kd.R_drewN | apply Kd.R_drew)); exact Kd.R_mono HO546.out (fun _ hk => ⟨hk.1.1.2, hk.1.2⟩)⟩, ⟨by (with_reducible repeat (first | apply Kd.R_alloc | apply Kd.R_drewN | apply Kd.R_drew)); exact Kd.R_mono HO541.out (fun _ hk => ⟨hk.1.1.2, hk.1.2⟩)⟩, ⟨by (with_reducible repeat (first | apply Kd.R_alloc | apply Kd.R_drewN | apply Kd.R_drew)); exact Kd.R_mono HO552.out (fun _ hk => ⟨hk.1.2, hk.1.1.2⟩)⟩, ⟨by (try refine sO ?_); exact BK532.out⟩, ⟨by (try refine sO ?_); exact BK543.out⟩, ⟨by (try refine sO ?_); exact BK554.out⟩, ⟨by repeat (first | exact sH HB.out | refine sN (w := w) ?_ | with_reducible refine sG (w := w) ?_ (by assumption))⟩⟩
        · replace c38 := Bool.eq_false_iff.mpr c38
          subst c38
          have H1 : (twoslotlaw15_DescReads.j0 k l1 t534 t542 t544 t547 t553 t558 false a0_0 a0_1 a0_2 a0_3 t537 t538 t539 t548 t549 t550) = some r := by rw [if_neg (show ¬ (false = true) by decide)] at H; exact H
          clear H
          have H := H1
          clear H1
          have H' := Aside0.mk H
          clear H
          have hnb48 := NB543_532.out
          have hnc48 := NB532_543.out
          have hnb49 := NB543_554.out
          have hnc49 := NB554_543.out
          obtain ⟨hcz50_0, hcz50_1, hcz50_2, hfz50_0, hfz50_1, hfz50_2⟩ := cs3 BK543.out
          have hnb51 := NB554_532.out
          have hnc51 := NB532_554.out
          obtain ⟨hcz52_0, hcz52_1, hcz52_2, hfz52_0, hfz52_1, hfz52_2⟩ := cs3 BK554.out
          go_wp2_with (first | ((with_reducible refine gate_callee (f := 24) rfl ?_); refine goesL_ (some 59) rfl rfl Try.func24 (by kernel_rfl) rfl #[.agg #[.int .i64 t537, .int .i64 t538, .slice Ao25 t539.length co25], .agg #[.int .i64 t548, .int .i64 t549, .slice Ao34 t550.length co34]] rfl (by (try simp only [sM]); first | done | rfl | (simp only [sT]; rfl)) ?_; (with_reducible refine (twoslotref15_Same.calls k t537 t538 _ _ t539 t548 t549 _ _ t550 false _ ?side1 ?side2 ?side3 ?side4 A37.out).mono ?_); (case side1 => exact sC (Kd.R_reads' HO541.out).2.2); (case side2 => exact (Kd.R_reads' HO541.out).2.1); (case side3 => exact sC (Kd.R_reads' HO552.out).2.2); (case side4 => exact (Kd.R_reads' HO552.out).2.1); rintro e w53 ⟨rfl, hb⟩; refine ⟨_, rfl, ?_⟩; replace HO536 := Aside0.mk (Kd.V_below (sV HO536.out) hb); replace HO541 := Aside0.mk (Kd.R_below (sR HO541.out) hb); replace HO546 := Aside0.mk (Kd.R_below (sR HO546.out) hb); replace HO552 := Aside0.mk (Kd.R_below (sR HO552.out) hb); replace HO557 := Aside0.mk (Kd.R_below (sR HO557.out) hb); replace BK532 := kB BK532 hb; replace BK543 := kB BK543 hb; replace BK554 := kB BK554 hb; replace HB := Aside0.mk (below_step (by repeat (first | exact sH HB.out | refine sN (w := w) ?_ | with_reducible refine sG (w := w) ?_ (by assumption))) hb); (try clear hb); (try clear hb2); (try clear hk); (try clear hi)))
          go_meet
          case rel => exact ⟨_, (false), (by first | rfl | (simp; done) | (simp [*]; done)), H', ⟨by first | omega | exact Nat.le_refl _⟩, ⟨by (with_reducible repeat (first | apply Kd.V_alloc | apply Kd.V_drewN | apply Kd.V_drew)); exact Kd.V_mono HO536.out (fun _ hk => ⟨hk.1.1.1.2, ⟨hk.1.1.1.1.1.2, ⟨hk.1.1.2, ⟨hk.1.1.1.1.1.1, ⟨hk.1.1.1.1.2, hk.1.2⟩⟩⟩⟩⟩)⟩, ⟨by (with_reducible repeat (first | apply Kd.R_alloc | apply Kd.R_drewN | apply Kd.R_drew)); exact Kd.R_mono HO546.out (fun _ hk => ⟨hk.1.1.2, hk.1.2⟩)⟩, ⟨by (with_reducible repeat (first | apply Kd.R_alloc | apply Kd.R_drewN | apply Kd.R_drew)); exact Kd.R_mono HO541.out (fun _ hk => ⟨hk.1.1.2, hk.1.2⟩)⟩, ⟨by (with_reducible repeat (first | apply Kd.R_alloc | apply Kd.R_drewN | apply Kd.R_drew)); exact Kd.R_mono HO552.out (fun _ hk => ⟨hk.1.2, hk.1.1.2⟩)⟩, ⟨by (try refine sO ?_); exact BK532.out⟩, ⟨by (try refine sO ?_); exact BK543.out⟩, ⟨by (try refine sO ?_); exact BK554.out⟩, ⟨by repeat (first | exact sH HB.out | refine sN (w := w) ?_ | with_reducible refine sG (w := w) ?_ (by assumption))⟩⟩
      case rest =>
        clear HC14
        try clear c1
        try clear hcv1
        try clear c2
        try clear p2
        try clear c3
        try clear c4
        try clear c5
        try clear c6
        try clear c6b0
        try clear c6b1
        try clear c8
        try clear c9
        try clear c13
        try clear c15
        try clear hcv17
        try clear c22
        try clear c23
        try clear c24
        try clear c31
        try clear c32
        try clear c38
        try clear c40
        try clear c41
        try clear c43
        try clear c48
        try clear c49
        try clear c51
        try clear hcz19_0
        try clear hcz19_1
        try clear hcz19_2
        try clear hcz19_3
        try clear hcz24_0
        try clear hcz24_1
        try clear hcz24_2
        try clear hcz26_0
        try clear hcz26_1
        try clear hcz26_2
        try clear hcz26_3
        try clear hcz28_0
        try clear hcz28_1
        try clear hcz28_2
        try clear hcz28_3
        try clear hcz33_0
        try clear hcz33_1
        try clear hcz33_2
        try clear hcz35_0
        try clear hcz35_1
        try clear hcz35_2
        try clear hcz35_3
        try clear hcz42_0
        try clear hcz42_1
        try clear hcz42_2
        try clear hcz44_0
        try clear hcz44_1
        try clear hcz44_2
        try clear hcz50_0
        try clear hcz50_1
        try clear hcz50_2
        try clear hcz52_0
        try clear hcz52_1
        try clear hcz52_2
        try clear hfz19_0
        try clear hfz19_1
        try clear hfz19_2
        try clear hfz19_3
        try clear hfz24_0
        try clear hfz24_1
        try clear hfz24_2
        try clear hfz26_0
        try clear hfz26_1
        try clear hfz26_2
        try clear hfz26_3
        try clear hfz28_0
        try clear hfz28_1
        try clear hfz28_2
        try clear hfz28_3
        try clear hfz33_0
        try clear hfz33_1
        try clear hfz33_2
        try clear hfz35_0
        try clear hfz35_1
        try clear hfz35_2
        try clear hfz35_3
        try clear hfz42_0
        try clear hfz42_1
        try clear hfz42_2
        try clear hfz44_0
        try clear hfz44_1
        try clear hfz44_2
        try clear hfz50_0
        try clear hfz50_1
        try clear hfz50_2
        try clear hfz52_0
        try clear hfz52_1
        try clear hfz52_2
        obtain ⟨kq, x17_13, rfl, HA, HJ13, HO_8, HO_11, HO_544002, HO_555002, BK532, BK543, BK554, HB⟩ := hcut
        cases kq with
        | zero => exact absurd HA.out (by simp [twoslotlaw15_DescReads.j0])
        | succ kj13 =>
          have H := HA.out
          clear HA
          simp only [twoslotlaw15_DescReads.j0] at H
          have H' := Aside0.mk H
          clear H
          go_wp2
          go_loopg [18] kj13 (fun kq v18 w' => ∃ (x11_2 : List (S27)) (x18_2 : Int), v18 = .int .i64 x18_2 ∧ Aside0 (twoslotlaw15_DescReads.l0 kq l1 t534 t542 x11_2 t547 t553 t558 x17_13 x18_2 a0_0 a0_1 a0_2 a0_3 t537 t538 t539 t548 t549 t550 = some r) ∧ Aside0 (kq ≤ kj13) ∧ Aside0 (Kd.V (Kd.int .u8) 5 w' w.heap.size (fun k_ => some k_ ≠ (v545 : Value).ownBlock ∧ some k_ ≠ ((.slice Ao25 t539.length co25) : Value).ownBlock ∧ some k_ ≠ ((.slice Ao34 t550.length co34) : Value).ownBlock ∧ k_ ≠ gb532 ∧ k_ ≠ gb543 ∧ k_ ≠ gb554) (.slice Ao20 t534.length co20) t534) ∧ Aside0 (Kd.R k27 27 w' w.heap.size (fun k_ => some k_ ≠ ((.slice Ao25 t539.length co25) : Value).ownBlock ∧ some k_ ≠ ((.slice Ao34 t550.length co34) : Value).ownBlock) v545 x11_2) ∧ Aside0 (Kd.R k27 27 w' w.heap.size (fun k_ => some k_ ≠ (v545 : Value).ownBlock ∧ some k_ ≠ ((.slice Ao34 t550.length co34) : Value).ownBlock) (.slice Ao25 t539.length co25) t539) ∧ Aside0 (Kd.R k27 27 w' w.heap.size (fun k_ => some k_ ≠ (v545 : Value).ownBlock ∧ some k_ ≠ ((.slice Ao25 t539.length co25) : Value).ownBlock) (.slice Ao34 t550.length co34) t550) ∧ Aside0 (w'.heap[gb532]? = some (.cells #[.int .i64 a0_0, .int .i64 a0_1, .int .i64 a0_2, .int .i64 a0_3] 24 (0, 0))) ∧ Aside0 (w'.heap[gb543]? = some (.cells #[.int .i64 t537, .int .i64 t538, (.slice Ao25 t539.length co25)] 35 (0, 0))) ∧ Aside0 (w'.heap[gb554]? = some (.cells #[.int .i64 t548, .int .i64 t549, (.slice Ao34 t550.length co34)] 35 (0, 0))) ∧ Aside0 (Below w.heap.size w w'))
          case atStart => exact ⟨(t544), (0), (by first | rfl | (simp; done) | (simp [*]; done)), H', ⟨Nat.le_refl _⟩, ⟨by (with_reducible repeat (first | apply Kd.V_alloc | apply Kd.V_drewN | apply Kd.V_drew)); exact HO_8.out⟩, ⟨by (with_reducible repeat (first | apply Kd.R_alloc | apply Kd.R_drewN | apply Kd.R_drew)); exact HO_11.out⟩, ⟨by (with_reducible repeat (first | apply Kd.R_alloc | apply Kd.R_drewN | apply Kd.R_drew)); exact HO_544002.out⟩, ⟨by (with_reducible repeat (first | apply Kd.R_alloc | apply Kd.R_drewN | apply Kd.R_drew)); exact HO_555002.out⟩, ⟨by (try refine sO ?_); exact BK532.out⟩, ⟨by (try refine sO ?_); exact BK543.out⟩, ⟨by (try refine sO ?_); exact BK554.out⟩, ⟨by repeat (first | exact sH HB.out | refine sN (w := w) ?_ | with_reducible refine sG (w := w) ?_ (by assumption))⟩⟩
          case round =>
            clear H'
            try clear c1
            try clear hcv1
            try clear c2
            try clear p2
            try clear c3
            try clear c4
            try clear c5
            try clear c6
            try clear c6b0
            try clear c6b1
            try clear c8
            try clear c9
            try clear c13
            try clear c15
            try clear hcv17
            try clear c22
            try clear c23
            try clear c24
            try clear c31
            try clear c32
            try clear c38
            try clear c40
            try clear c41
            try clear c43
            try clear c48
            try clear c49
            try clear c51
            try clear hcz19_0
            try clear hcz19_1
            try clear hcz19_2
            try clear hcz19_3
            try clear hcz24_0
            try clear hcz24_1
            try clear hcz24_2
            try clear hcz26_0
            try clear hcz26_1
            try clear hcz26_2
            try clear hcz26_3
            try clear hcz28_0
            try clear hcz28_1
            try clear hcz28_2
            try clear hcz28_3
            try clear hcz33_0
            try clear hcz33_1
            try clear hcz33_2
            try clear hcz35_0
            try clear hcz35_1
            try clear hcz35_2
            try clear hcz35_3
            try clear hcz42_0
            try clear hcz42_1
            try clear hcz42_2
            try clear hcz44_0
            try clear hcz44_1
            try clear hcz44_2
            try clear hcz50_0
            try clear hcz50_1
            try clear hcz50_2
            try clear hcz52_0
            try clear hcz52_1
            try clear hcz52_2
            try clear hfz19_0
            try clear hfz19_1
            try clear hfz19_2
            try clear hfz19_3
            try clear hfz24_0
            try clear hfz24_1
            try clear hfz24_2
            try clear hfz26_0
            try clear hfz26_1
            try clear hfz26_2
            try clear hfz26_3
            try clear hfz28_0
            try clear hfz28_1
            try clear hfz28_2
            try clear hfz28_3
            try clear hfz33_0
            try clear hfz33_1
            try clear hfz33_2
            try clear hfz35_0
            try clear hfz35_1
            try clear hfz35_2
            try clear hfz35_3
            try clear hfz42_0
            try clear hfz42_1
            try clear hfz42_2
            try clear hfz44_0
            try clear hfz44_1
            try clear hfz44_2
            try clear hfz50_0
            try clear hfz50_1
            try clear hfz50_2
            try clear hfz52_0
            try clear hfz52_1
            try clear hfz52_2
            try clear p2
            obtain ⟨x11_2, x18_2, rfl, HA, HK2, HO_8, HO_11, HO_544002, HO_555002, BK532, BK543, BK554, HB⟩ := hrel
            cases gk with
            | zero => exact absurd HA.out (by simp [twoslotlaw15_DescReads.l0])
            | succ k2 =>
              have H := HA.out
              clear HA
              simp only [twoslotlaw15_DescReads.l0] at H
              by_cases c54 : x18_2 < (x11_2.length : Int)
              · rw [if_pos c54] at H
                have c54b0 : decide (x18_2 < (x11_2.length : Int)) = true := decide_eq_true c54
                clear c54
                by_cases c55 : 0 ≤ x18_2
                · rw [if_pos c55] at H
                  have c55b0 : decide (0 ≤ x18_2) = true := decide_eq_true c55
                  clear c55
                  obtain ⟨y561, hy561⟩ : ∃ y_ : List (S27), y_ = (x11_2.set (x18_2 : Int).toNat (⟨(-9), (rd_T27 x11_2 x18_2).f1⟩ : S27)) := ⟨_, rfl⟩
                  replace H : (twoslotlaw15_DescReads.l0 k2 l1 t534 t542 y561 t547 t553 t558 x17_13 (wrap64 (x18_2 + 1)) a0_0 a0_1 a0_2 a0_3 t537 t538 t539 t548 t549 t550) = some r := by first | (rw [hy561]; with_reducible exact H) | (have H2_ := (Option.bind_some _ _).symm.trans H; rw [hy561]; with_reducible exact H2_) | (have H2_ := (Option.bind_some _ _).symm.trans H; with_reducible exact H2_) | with_reducible exact H | (rw [hy561]; exact H) | exact H
                  have Ny561 := Aside0.mk hy561
                  clear hy561
                  have H' := Aside0.mk H
                  clear H
                  obtain ⟨Ao57, co57, eo57⟩ := Kd.R_slice HO_11.out
                  subst eo57
                  have p56 : 0 ≤ (x18_2 : Int) := of_decide_eq_true (by first | (with_reducible assumption) | assumption)
                  have q56 : (x18_2 : Int) < ((x11_2.length : Int) : Int) := of_decide_eq_true (by first | (with_reducible assumption) | assumption)
                  obtain ⟨go56, co56, eo56, gb56, gl56, cl56, HG56⟩ := Kd.R_form HO_11.out (by omega)
                  (first | cases eo56 | (injection eo56 with ea_ en_ ec_; (first | subst ea_ | (injection ea_ with ea_; subst ea_)); subst ec_; clear en_))
                  have GB56 := Aside0.mk gb56
                  have GG56 := Aside0.mk HG56
                  clear gb56 gl56 HG56
                  obtain ⟨ce56, hcl56, hM56, hcc56, hfr56⟩ := Kd.R_elem HO_11.out z27 (x18_2 : Int) p56 q56
                  obtain rfl := k27_openM hM56
                  have hx56_0 : wr.cell? ⟨go56, (x18_2 : Int).toNat * 2, none⟩ = some (.int .i64 ((rd_T27 x11_2 x18_2).f0)) := hcc56 0 _ rfl
                  have hx56_1 : wr.cell? ⟨go56, (x18_2 : Int).toNat * 2 + 1, none⟩ = some (.int .i64 ((rd_T27 x11_2 x18_2).f1)) := hcc56 1 _ rfl
                  have hf56_0 : wr.frozen? ⟨go56, (x18_2 : Int).toNat * 2, none⟩ = false := hfr56 0
                  have hf56_1 : wr.frozen? ⟨go56, (x18_2 : Int).toNat * 2 + 1, none⟩ = false := hfr56 1
                  clear hcl56 hcc56 hfr56 hM56
                  replace p56 := eq_true p56
                  replace q56 := eq_true q56
                  have HX58 := Aside0.mk (show Kd.R k27 27 wr w.heap.size (fun k_ => some k_ ≠ (.slice Ao25 t539.length co25 : Value).ownBlock ∧ some k_ ≠ (.slice Ao34 t550.length co34 : Value).ownBlock) (.slice (some ⟨go56, 0, none⟩) x11_2.length co57) x11_2 from (sR HO_11.out))
                  obtain ⟨ce58, hcl58, hM58, hcc58, hfr58⟩ := Kd.R_elem HX58.out z27 (x18_2 : Int) (of_decide_eq_true (by first | (with_reducible assumption) | assumption)) (by have h_ : (x18_2 : Int) < ((x11_2.length : Int) : Int) := of_decide_eq_true (by first | (with_reducible assumption) | assumption); first | exact h_ | (have e_ := (Kd.R_reads' HO_11.out).1; omega) | simpa using h_)
                  obtain rfl := k27_openM hM58
                  have HP58 := Kd.R_seg HX58.out (x18_2 : Int) (of_decide_eq_true (by first | (with_reducible assumption) | assumption)) (by have h_ : (x18_2 : Int) < ((x11_2.length : Int) : Int) := of_decide_eq_true (by first | (with_reducible assumption) | assumption); first | exact h_ | (have e_ := (Kd.R_reads' HO_11.out).1; omega) | simpa using h_) (seg := [.int .i64 (-9)]) (j := 0) hcl58 hcc58 (show 1 ≤ 2 from by decide) (x' := (⟨(-9), (rd_T27 x11_2 x18_2).f1⟩ : S27)) (k27_mkM _ _ _ (⟨(-9), (rd_T27 x11_2 x18_2).f1⟩ : S27) ) (fun _ hk => hk)
                  have hx58_0 := hcc58 0 _ rfl
                  (try simp only [show (k27).sz = 2 from rfl, Nat.mul_one, Nat.add_zero] at hx58_0)
                  have hf58_0 := hfr58 0
                  (try simp only [show (k27).sz = 2 from rfl, Nat.mul_one, Nat.add_zero] at hf58_0)
                  clear hcl58 hcc58 hfr58 hM58
                  go_wp2_with (first | ((with_reducible refine gate_store (t := 3) (p := 74) rfl ?_); refine store_event (t := 3) (p := 74) (v := ?vo_w59) (w1 := (wr.setCell ⟨go56, (x18_2 : Int).toNat * 2, none⟩ (.int .i64 (-9)))) ?hg ?ho ?hn ?hr ?_; (case ho => rfl); (case hg => rfl); (case hn => rfl); (case hr => first | (go_simp; done) | (go_simp; rfl)); intro w59 hw; have hg : wr.grownBy w59 (some go56) := (by rw [hw]; exact HP58.2); have hp_ : Kd.R k27 27 w59 w.heap.size (fun k_ => some k_ ≠ (.slice Ao25 t539.length co25 : Value).ownBlock ∧ some k_ ≠ (.slice Ao34 t550.length co34 : Value).ownBlock) (.slice (some ⟨go56, 0, none⟩) x11_2.length co57) y561 := (by rw [hw, Ny561.out]; exact HP58.1); clear HP58; replace HO_8 := Aside0.mk (Kd.V_afterv (v := (.slice (some ⟨go56, 0, none⟩) x11_2.length co57)) (v1 := (.slice (some ⟨go56, 0, none⟩) x11_2.length co57)) (ok := (fun k_ => some k_ ≠ (.slice Ao25 t539.length co25 : Value).ownBlock ∧ some k_ ≠ (.slice Ao34 t550.length co34 : Value).ownBlock ∧ k_ ≠ gb532 ∧ k_ ≠ gb543 ∧ k_ ≠ gb554)) (by (with_reducible repeat (first | apply Kd.V_alloc | apply Kd.V_drewN | apply Kd.V_drew)); exact Kd.V_mono HO_8.out (fun _ hk => ⟨⟨hk.2.1, ⟨hk.2.2.1, ⟨hk.2.2.2.1, ⟨hk.2.2.2.2.1, hk.2.2.2.2.2⟩⟩⟩⟩, hk.1⟩)) hg (.inl rfl)); replace HO_544002 := Aside0.mk (Kd.R_after (v := (.slice (some ⟨go56, 0, none⟩) x11_2.length co57)) (v1 := (.slice (some ⟨go56, 0, none⟩) x11_2.length co57)) (ok := (fun k_ => some k_ ≠ (.slice Ao34 t550.length co34 : Value).ownBlock)) (by (with_reducible repeat (first | apply Kd.R_alloc | apply Kd.R_drewN | apply Kd.R_drew)); exact Kd.R_mono HO_544002.out (fun _ hk => ⟨hk.2, hk.1⟩)) hg (.inl rfl)); replace HO_555002 := Aside0.mk (Kd.R_after (v := (.slice (some ⟨go56, 0, none⟩) x11_2.length co57)) (v1 := (.slice (some ⟨go56, 0, none⟩) x11_2.length co57)) (ok := (fun k_ => some k_ ≠ (.slice Ao25 t539.length co25 : Value).ownBlock)) (by (with_reducible repeat (first | apply Kd.R_alloc | apply Kd.R_drewN | apply Kd.R_drew)); exact Kd.R_mono HO_555002.out (fun _ hk => ⟨hk.2, hk.1⟩)) hg (.inl rfl)); replace BK532 := Aside0.mk (blk_grown (g := gb532) (o := .cells #[.int .i64 a0_0, .int .i64 a0_1, .int .i64 a0_2, .int .i64 a0_3] 24 (0, 0)) (by first | exact BK532.out | (refine sO ?_; exact BK532.out)) hg (Kd.R_ne HO_11.out BK532.out (by decide))); replace BK543 := Aside0.mk (blk_grown (g := gb543) (o := .cells #[.int .i64 t537, .int .i64 t538, .slice Ao25 t539.length co25] 35 (0, 0)) (by first | exact BK543.out | (refine sO ?_; exact BK543.out)) hg (Kd.R_ne HO_11.out BK543.out (by decide))); replace BK554 := Aside0.mk (blk_grown (g := gb554) (o := .cells #[.int .i64 t548, .int .i64 t549, .slice Ao34 t550.length co34] 35 (0, 0)) (by first | exact BK554.out | (refine sO ?_; exact BK554.out)) hg (Kd.R_ne HO_11.out BK554.out (by decide))); replace HO_11 := Aside0.mk (hp_); replace HB := Aside0.mk ((by rw [hw]; exact below_set (HB.out) GB56.out : Below w.heap.size w w59)); clear hg hw hp_))
                  go_roundg k2
                  case measure => have := HJ13.out; have := HK2.out; omega
                  case rel => exact ⟨(y561), (wrap64 (x18_2 + 1)), (by first | rfl | (simp; done) | (simp [*]; done)), H', ⟨by have := HJ13.out; have := HK2.out; omega⟩, ⟨by (with_reducible repeat (first | apply Kd.V_alloc | apply Kd.V_drewN | apply Kd.V_drew)); exact Kd.V_mono HO_8.out (fun _ hk => ⟨hk.2, ⟨hk.1.1, ⟨hk.1.2.1, ⟨hk.1.2.2.1, ⟨hk.1.2.2.2.1, hk.1.2.2.2.2⟩⟩⟩⟩⟩)⟩, ⟨by (with_reducible repeat (first | apply Kd.R_alloc | apply Kd.R_drewN | apply Kd.R_drew)); exact HO_11.out⟩, ⟨by (with_reducible repeat (first | apply Kd.R_alloc | apply Kd.R_drewN | apply Kd.R_drew)); exact Kd.R_mono HO_544002.out (fun _ hk => ⟨hk.2, hk.1⟩)⟩, ⟨by (with_reducible repeat (first | apply Kd.R_alloc | apply Kd.R_drewN | apply Kd.R_drew)); exact Kd.R_mono HO_555002.out (fun _ hk => ⟨hk.2, hk.1⟩)⟩, ⟨by (try refine sO ?_); exact BK532.out⟩, ⟨by (try refine sO ?_); exact BK543.out⟩, ⟨by (try refine sO ?_); exact BK554.out⟩, ⟨by repeat (first | exact sH HB.out | refine sN (w := w) ?_ | with_reducible refine sG (w := w) ?_ (by assumption))⟩⟩
                · rw [if_neg c55] at H
                  exact absurd H (by simp)
              · rw [if_neg c54] at H
                have c54b0 : decide (x18_2 < (x11_2.length : Int)) = false := decide_eq_false c54
                clear c54
                have H' := Aside0.mk H
                clear H
                obtain ⟨Ao60, co60, eo60⟩ := Kd.R_slice HO_11.out
                subst eo60
                go_wp2
                go_loopg [19] k2 (fun kq v19 w' => ∃ (x19_3 : Int) (x544002_3 : List (S27)) (x555002_3 : List (S27)) (u544002 : Value) (u555002 : Value), v19 = .int .i64 x19_3 ∧ Aside0 (twoslotlaw15_DescReads.l1 kq l1 t534 t542 t547 t553 t558 x17_13 x19_3 a0_0 a0_1 a0_2 a0_3 t537 t538 x544002_3 t548 t549 x555002_3 = some r) ∧ Aside0 (kq ≤ k2) ∧ Aside0 (Kd.V (Kd.int .u8) 5 w' w.heap.size (fun k_ => some k_ ≠ (u544002 : Value).ownBlock ∧ some k_ ≠ (u555002 : Value).ownBlock ∧ k_ ≠ gb532 ∧ k_ ≠ gb543 ∧ k_ ≠ gb554) (.slice Ao20 t534.length co20) t534) ∧ Aside0 (Kd.R k27 27 w' w.heap.size (fun k_ => some k_ ≠ (u555002 : Value).ownBlock) u544002 x544002_3) ∧ Aside0 (Kd.R k27 27 w' w.heap.size (fun k_ => some k_ ≠ (u544002 : Value).ownBlock) u555002 x555002_3) ∧ Aside0 (w'.heap[gb532]? = some (.cells #[.int .i64 a0_0, .int .i64 a0_1, .int .i64 a0_2, .int .i64 a0_3] 24 (0, 0))) ∧ Aside0 (w'.heap[gb543]? = some (.cells #[.int .i64 t537, .int .i64 t538, u544002] 35 (0, 0))) ∧ Aside0 (w'.heap[gb554]? = some (.cells #[.int .i64 t548, .int .i64 t549, u555002] 35 (0, 0))) ∧ Aside0 (Below w.heap.size w w'))
                case atStart => exact ⟨(0), (t539), (t550), (.slice Ao25 t539.length co25), (.slice Ao34 t550.length co34), (by first | rfl | (simp; done) | (simp [*]; done)), H', ⟨Nat.le_refl _⟩, ⟨by (with_reducible repeat (first | apply Kd.V_alloc | apply Kd.V_drewN | apply Kd.V_drew)); exact Kd.V_mono HO_8.out (fun _ hk => ⟨hk.2.1, ⟨hk.2.2.1, ⟨hk.2.2.2.1, ⟨hk.2.2.2.2.1, hk.2.2.2.2.2⟩⟩⟩⟩)⟩, ⟨by (with_reducible repeat (first | apply Kd.R_alloc | apply Kd.R_drewN | apply Kd.R_drew)); exact Kd.R_mono HO_544002.out (fun _ hk => hk.2)⟩, ⟨by (with_reducible repeat (first | apply Kd.R_alloc | apply Kd.R_drewN | apply Kd.R_drew)); exact Kd.R_mono HO_555002.out (fun _ hk => hk.2)⟩, ⟨by (try refine sO ?_); exact BK532.out⟩, ⟨by (try refine sO ?_); exact BK543.out⟩, ⟨by (try refine sO ?_); exact BK554.out⟩, ⟨by repeat (first | exact sH HB.out | refine sN (w := w) ?_ | with_reducible refine sG (w := w) ?_ (by assumption))⟩⟩
                case round =>
                  clear H'
                  try clear c1
                  try clear hcv1
                  try clear c2
                  try clear p2
                  try clear c3
                  try clear c4
                  try clear c5
                  try clear p5
                  try clear q5
                  try clear hx5
                  try clear hf5
                  try clear c6
                  try clear c6b0
                  try clear c6b1
                  try clear p6
                  try clear c8
                  try clear c9
                  try clear c13
                  try clear c15
                  try clear hcv17
                  try clear c22
                  try clear c23
                  try clear c24
                  try clear c31
                  try clear c32
                  try clear c38
                  try clear c40
                  try clear c41
                  try clear c43
                  try clear c48
                  try clear c49
                  try clear c51
                  try clear c54
                  try clear c54b0
                  try clear c55
                  try clear c55b0
                  try clear c56
                  try clear p56
                  try clear q56
                  try clear hx56
                  try clear hf56
                  try clear c58
                  try clear hx58
                  try clear hf58
                  try clear hcz19_0
                  try clear hcz19_1
                  try clear hcz19_2
                  try clear hcz19_3
                  try clear hcz24_0
                  try clear hcz24_1
                  try clear hcz24_2
                  try clear hcz26_0
                  try clear hcz26_1
                  try clear hcz26_2
                  try clear hcz26_3
                  try clear hcz28_0
                  try clear hcz28_1
                  try clear hcz28_2
                  try clear hcz28_3
                  try clear hcz33_0
                  try clear hcz33_1
                  try clear hcz33_2
                  try clear hcz35_0
                  try clear hcz35_1
                  try clear hcz35_2
                  try clear hcz35_3
                  try clear hcz42_0
                  try clear hcz42_1
                  try clear hcz42_2
                  try clear hcz44_0
                  try clear hcz44_1
                  try clear hcz44_2
                  try clear hcz50_0
                  try clear hcz50_1
                  try clear hcz50_2
                  try clear hcz52_0
                  try clear hcz52_1
                  try clear hcz52_2
                  try clear hfz19_0
                  try clear hfz19_1
                  try clear hfz19_2
                  try clear hfz19_3
                  try clear hfz24_0
                  try clear hfz24_1
                  try clear hfz24_2
                  try clear hfz26_0
                  try clear hfz26_1
                  try clear hfz26_2
                  try clear hfz26_3
                  try clear hfz28_0
                  try clear hfz28_1
                  try clear hfz28_2
                  try clear hfz28_3
                  try clear hfz33_0
                  try clear hfz33_1
                  try clear hfz33_2
                  try clear hfz35_0
                  try clear hfz35_1
                  try clear hfz35_2
                  try clear hfz35_3
                  try clear hfz42_0
                  try clear hfz42_1
                  try clear hfz42_2
                  try clear hfz44_0
                  try clear hfz44_1
                  try clear hfz44_2
                  try clear hfz50_0
                  try clear hfz50_1
                  try clear hfz50_2
                  try clear hfz52_0
                  try clear hfz52_1
                  try clear hfz52_2
                  try clear hx56_0
                  try clear hx56_1
                  try clear hx58_0
                  try clear p2
                  try clear p56
                  try clear q56
                  obtain ⟨x19_3, x544002_3, x555002_3, u544002, u555002, rfl, HA, HK3, HO_8, HO_544002, HO_555002, BK532, BK543, BK554, HB⟩ := hrel
                  cases gk with
                  | zero => exact absurd HA.out (by simp [twoslotlaw15_DescReads.l1])
                  | succ k3 =>
                    have H := HA.out
                    clear HA
                    simp only [twoslotlaw15_DescReads.l1] at H
                    by_cases c61 : x19_3 < (x544002_3.length : Int)
                    · rw [if_pos c61] at H
                      have c61b0 : decide (x19_3 < (x544002_3.length : Int)) = true := decide_eq_true c61
                      clear c61
                      by_cases c62 : 0 ≤ x19_3
                      · rw [if_pos c62] at H
                        have c62b0 : decide (0 ≤ x19_3) = true := decide_eq_true c62
                        clear c62
                        obtain ⟨y562, hy562⟩ : ∃ y_ : List (S27), y_ = (x544002_3.set (x19_3 : Int).toNat (⟨(-9), (rd_T27 x544002_3 x19_3).f1⟩ : S27)) := ⟨_, rfl⟩
                        replace H : (twoslotlaw15_DescReads.l1 k3 l1 t534 t542 t547 t553 t558 x17_13 (wrap64 (x19_3 + 1)) a0_0 a0_1 a0_2 a0_3 t537 t538 y562 t548 t549 x555002_3) = some r := by first | (rw [hy562]; with_reducible exact H) | (have H2_ := (Option.bind_some _ _).symm.trans H; rw [hy562]; with_reducible exact H2_) | (have H2_ := (Option.bind_some _ _).symm.trans H; with_reducible exact H2_) | with_reducible exact H | (rw [hy562]; exact H) | exact H
                        have Ny562 := Aside0.mk hy562
                        clear hy562
                        have H' := Aside0.mk H
                        clear H
                        have hnb64 := NB543_532.out
                        have hnc64 := NB532_543.out
                        have hnb65 := NB543_554.out
                        have hnc65 := NB554_543.out
                        obtain ⟨hcz66_0, hcz66_1, hcz66_2, hfz66_0, hfz66_1, hfz66_2⟩ := cs3 BK543.out
                        obtain ⟨Ao67, co67, eo67⟩ := Kd.R_slice HO_544002.out
                        subst eo67
                        have p63 : 0 ≤ (x19_3 : Int) := of_decide_eq_true (by first | (with_reducible assumption) | assumption)
                        have q63 : (x19_3 : Int) < ((x544002_3.length : Int) : Int) := of_decide_eq_true (by first | (with_reducible assumption) | assumption)
                        obtain ⟨go63, co63, eo63, gb63, gl63, cl63, HG63⟩ := Kd.R_form HO_544002.out (by omega)
                        (first | cases eo63 | (injection eo63 with ea_ en_ ec_; (first | subst ea_ | (injection ea_ with ea_; subst ea_)); subst ec_; clear en_))
                        have GB63 := Aside0.mk gb63
                        have GG63 := Aside0.mk HG63
                        clear gb63 gl63 HG63
                        obtain ⟨ce63, hcl63, hM63, hcc63, hfr63⟩ := Kd.R_elem HO_544002.out z27 (x19_3 : Int) p63 q63
                        obtain rfl := k27_openM hM63
                        have hx63_0 : wr.cell? ⟨go63, (x19_3 : Int).toNat * 2, none⟩ = some (.int .i64 ((rd_T27 x544002_3 x19_3).f0)) := hcc63 0 _ rfl
                        have hx63_1 : wr.cell? ⟨go63, (x19_3 : Int).toNat * 2 + 1, none⟩ = some (.int .i64 ((rd_T27 x544002_3 x19_3).f1)) := hcc63 1 _ rfl
                        have hf63_0 : wr.frozen? ⟨go63, (x19_3 : Int).toNat * 2, none⟩ = false := hfr63 0
                        have hf63_1 : wr.frozen? ⟨go63, (x19_3 : Int).toNat * 2 + 1, none⟩ = false := hfr63 1
                        clear hcl63 hcc63 hfr63 hM63
                        replace p63 := eq_true p63
                        replace q63 := eq_true q63
                        have HX68 := Aside0.mk (show Kd.R k27 27 wr w.heap.size (fun k_ => some k_ ≠ (u555002 : Value).ownBlock) (.slice (some ⟨go63, 0, none⟩) x544002_3.length co67) x544002_3 from (sR HO_544002.out))
                        obtain ⟨ce68, hcl68, hM68, hcc68, hfr68⟩ := Kd.R_elem HX68.out z27 (x19_3 : Int) (of_decide_eq_true (by first | (with_reducible assumption) | assumption)) (by have h_ : (x19_3 : Int) < ((x544002_3.length : Int) : Int) := of_decide_eq_true (by first | (with_reducible assumption) | assumption); first | exact h_ | (have e_ := (Kd.R_reads' HO_544002.out).1; omega) | simpa using h_)
                        obtain rfl := k27_openM hM68
                        have HP68 := Kd.R_seg HX68.out (x19_3 : Int) (of_decide_eq_true (by first | (with_reducible assumption) | assumption)) (by have h_ : (x19_3 : Int) < ((x544002_3.length : Int) : Int) := of_decide_eq_true (by first | (with_reducible assumption) | assumption); first | exact h_ | (have e_ := (Kd.R_reads' HO_544002.out).1; omega) | simpa using h_) (seg := [.int .i64 (-9)]) (j := 0) hcl68 hcc68 (show 1 ≤ 2 from by decide) (x' := (⟨(-9), (rd_T27 x544002_3 x19_3).f1⟩ : S27)) (k27_mkM _ _ _ (⟨(-9), (rd_T27 x544002_3 x19_3).f1⟩ : S27) ) (fun _ hk => hk)
                        have hx68_0 := hcc68 0 _ rfl
                        (try simp only [show (k27).sz = 2 from rfl, Nat.mul_one, Nat.add_zero] at hx68_0)
                        have hf68_0 := hfr68 0
                        (try simp only [show (k27).sz = 2 from rfl, Nat.mul_one, Nat.add_zero] at hf68_0)
                        clear hcl68 hcc68 hfr68 hM68
                        go_wp2_with (first | ((with_reducible refine gate_store (t := 3) (p := 86) rfl ?_); refine store_event (t := 3) (p := 86) (v := ?vo_w69) (w1 := (wr.setCell ⟨go63, (x19_3 : Int).toNat * 2, none⟩ (.int .i64 (-9)))) ?hg ?ho ?hn ?hr ?_; (case ho => rfl); (case hg => rfl); (case hn => rfl); (case hr => first | (go_simp; done) | (go_simp; rfl)); intro w69 hw; have hg : wr.grownBy w69 (some go63) := (by rw [hw]; exact HP68.2); have hp_ : Kd.R k27 27 w69 w.heap.size (fun k_ => some k_ ≠ (u555002 : Value).ownBlock) (.slice (some ⟨go63, 0, none⟩) x544002_3.length co67) y562 := (by rw [hw, Ny562.out]; exact HP68.1); clear HP68; replace HO_8 := Aside0.mk (Kd.V_afterv (v := (.slice (some ⟨go63, 0, none⟩) x544002_3.length co67)) (v1 := (.slice (some ⟨go63, 0, none⟩) x544002_3.length co67)) (ok := (fun k_ => some k_ ≠ (u555002 : Value).ownBlock ∧ k_ ≠ gb532 ∧ k_ ≠ gb543 ∧ k_ ≠ gb554)) (by (with_reducible repeat (first | apply Kd.V_alloc | apply Kd.V_drewN | apply Kd.V_drew)); exact Kd.V_mono HO_8.out (fun _ hk => ⟨⟨hk.2.1, ⟨hk.2.2.1, ⟨hk.2.2.2.1, hk.2.2.2.2⟩⟩⟩, hk.1⟩)) hg (.inl rfl)); replace HO_555002 := Aside0.mk (Kd.R_after (v := (.slice (some ⟨go63, 0, none⟩) x544002_3.length co67)) (v1 := (.slice (some ⟨go63, 0, none⟩) x544002_3.length co67)) (ok := (fun _ => True)) (by (with_reducible repeat (first | apply Kd.R_alloc | apply Kd.R_drewN | apply Kd.R_drew)); exact Kd.R_mono HO_555002.out (fun _ hk => ⟨trivial, hk⟩)) hg (.inl rfl)); replace BK532 := Aside0.mk (blk_grown (g := gb532) (o := .cells #[.int .i64 a0_0, .int .i64 a0_1, .int .i64 a0_2, .int .i64 a0_3] 24 (0, 0)) (by first | exact BK532.out | (refine sO ?_; exact BK532.out)) hg (Kd.R_ne HO_544002.out BK532.out (by decide))); replace BK543 := Aside0.mk (blk_grown (g := gb543) (o := .cells #[.int .i64 t537, .int .i64 t538, .slice (some ⟨go63, 0, none⟩) x544002_3.length co67] 35 (0, 0)) (by first | exact BK543.out | (refine sO ?_; exact BK543.out)) hg (Kd.R_ne HO_544002.out BK543.out (by decide))); replace BK554 := Aside0.mk (blk_grown (g := gb554) (o := .cells #[.int .i64 t548, .int .i64 t549, u555002] 35 (0, 0)) (by first | exact BK554.out | (refine sO ?_; exact BK554.out)) hg (Kd.R_ne HO_544002.out BK554.out (by decide))); replace HO_544002 := Aside0.mk (hp_); replace HB := Aside0.mk ((by rw [hw]; exact below_set (HB.out) GB63.out : Below w.heap.size w w69)); clear hg hw hp_))
                        go_roundg k3
                        case measure => have := HJ13.out; have := HK2.out; have := HK3.out; omega
                        case rel => exact ⟨(wrap64 (x19_3 + 1)), (y562), (x555002_3), (.slice (some ⟨go63, 0, none⟩) x544002_3.length co67), (u555002), (by first | rfl | (simp; done) | (simp [*]; done)), H', ⟨by have := HJ13.out; have := HK2.out; have := HK3.out; omega⟩, ⟨by (with_reducible repeat (first | apply Kd.V_alloc | apply Kd.V_drewN | apply Kd.V_drew)); exact Kd.V_mono HO_8.out (fun _ hk => ⟨hk.2, ⟨hk.1.1, ⟨hk.1.2.1, ⟨hk.1.2.2.1, hk.1.2.2.2⟩⟩⟩⟩)⟩, ⟨by (with_reducible repeat (first | apply Kd.R_alloc | apply Kd.R_drewN | apply Kd.R_drew)); exact HO_544002.out⟩, ⟨by (with_reducible repeat (first | apply Kd.R_alloc | apply Kd.R_drewN | apply Kd.R_drew)); exact Kd.R_mono HO_555002.out (fun _ hk => hk.2)⟩, ⟨by (try refine sO ?_); exact BK532.out⟩, ⟨by (try refine sO ?_); exact BK543.out⟩, ⟨by (try refine sO ?_); exact BK554.out⟩, ⟨by repeat (first | exact sH HB.out | refine sN (w := w) ?_ | with_reducible refine sG (w := w) ?_ (by assumption))⟩⟩
                      · rw [if_neg c62] at H
                        exact absurd H (by simp)
                    · rw [if_neg c61] at H
                      have c61b0 : decide (x19_3 < (x544002_3.length : Int)) = false := decide_eq_false c61
                      clear c61
                      replace H := Option.bind_eq_some_iff.mp H
                      obtain ⟨⟨t563, t564, t565, t568⟩, A700, H⟩ := H
                      try dsimp only at H
                      have A70 := Aside0.mk A700
                      clear A700
                      by_cases c71 : x17_13 = true
                      · subst c71
                        have H1 : ((twoslotref15_Same.f k3 t563 t564 t565 t548 t549 x555002_3).bind fun t570 => (if t570 = true then (if (strOfNums t534).toList = (strOfNums l1).toList then (if t542 = t553 then (if t547 = t558 then (some (t568 == t553)) else (none)) else (none)) else (none)) else (none))) = some r := by rw [if_pos rfl] at H; exact H
                        clear H
                        have H := H1
                        clear H1
                        replace H := Option.bind_eq_some_iff.mp H
                        obtain ⟨t570, A720, H⟩ := H
                        try dsimp only at H
                        have A72 := Aside0.mk A720
                        clear A720
                        by_cases c73 : t570 = true
                        · subst c73
                          have H1 : (if (strOfNums t534).toList = (strOfNums l1).toList then (if t542 = t553 then (if t547 = t558 then (some (t568 == t553)) else (none)) else (none)) else (none)) = some r := by rw [if_pos rfl] at H; exact H
                          clear H
                          have H := H1
                          clear H1
                          by_cases c74 : (strOfNums t534).toList = (strOfNums l1).toList
                          · rw [if_pos c74] at H
                            have c74b0 : ((strOfNums t534).toList == (strOfNums l1).toList) = true := beq_iff_eq.mpr c74
                            have c74b1 : ((strOfNums t534).toList != (strOfNums l1).toList) = false := bne_eq_false_iff_eq.mpr c74
                            clear c74
                            by_cases c75 : t542 = t553
                            · rw [if_pos c75] at H
                              have c75b0 : (t542 == t553) = true := beq_iff_eq.mpr c75
                              have c75b1 : (t542 != t553) = false := bne_eq_false_iff_eq.mpr c75
                              clear c75
                              by_cases c76 : t547 = t558
                              · rw [if_pos c76] at H
                                have c76b0 : (t547 == t558) = true := beq_iff_eq.mpr c76
                                have c76b1 : (t547 != t558) = false := bne_eq_false_iff_eq.mpr c76
                                clear c76
                                obtain rfl := Option.some.inj H
                                have hnb77 := NB543_532.out
                                have hnc77 := NB532_543.out
                                have hnb78 := NB543_554.out
                                have hnc78 := NB554_543.out
                                obtain ⟨hcz79_0, hcz79_1, hcz79_2, hfz79_0, hfz79_1, hfz79_2⟩ := cs3 BK543.out
                                obtain ⟨Ao80, co80, eo80⟩ := Kd.R_slice HO_544002.out
                                subst eo80
                                have hnb81 := NB532_554.out
                                have hnc81 := NB554_532.out
                                obtain ⟨hcz82_0, hcz82_1, hcz82_2, hcz82_3, hfz82_0, hfz82_1, hfz82_2, hfz82_3⟩ := cs4 BK532.out
                                go_wp2_with (first | ((with_reducible refine gate_callee (f := 15) rfl ?_); refine goesL_ (some 90) rfl rfl Try.func15 (by kernel_rfl) rfl #[.agg #[.int .i64 a0_0, .int .i64 a0_1, .int .i64 a0_2, .int .i64 a0_3], .slice Ao20 t534.length co20] rfl (by (try simp only [sM]); first | done | rfl | (simp only [sT]; rfl)) ?_; (with_reducible refine (desc_Parse.calls k3 a0_0 a0_1 a0_2 a0_3 _ _ t534 t563 t564 t565 t568 _ ?side1 ?side2 A70.out).mono ?_); (case side1 => exact sC (Kd.V_reads' HO_8.out).2.2); (case side2 => exact (Kd.V_reads' HO_8.out).2.1); rintro e w83 ⟨v566, rfl, ho0, hb⟩; refine ⟨_, rfl, ?_⟩; replace HO_8 := Aside0.mk (Kd.V_elder' (sV HO_8.out) (Kd.R_base ho0) hb); have HO567 := Aside0.mk (Kd.R_lower (Kd.R_new' (Kd.R_new' ho0 (Kd.R_lt (sR HO_544002.out))) (Kd.R_lt (sR HO_555002.out))) (below_size (by repeat (first | exact sH HB.out | refine sN (w := w) ?_ | with_reducible refine sG (w := w) ?_ (by assumption))))); replace HO_544002 := Aside0.mk (Kd.R_elder' (sR HO_544002.out) (Kd.R_base ho0) hb); replace HO_555002 := Aside0.mk (Kd.R_elder' (sR HO_555002.out) (Kd.R_base ho0) hb); replace BK532 := kB BK532 hb; replace BK543 := kB BK543 hb; replace BK554 := kB BK554 hb; replace HB := Aside0.mk (below_step (by repeat (first | exact sH HB.out | refine sN (w := w) ?_ | with_reducible refine sG (w := w) ?_ (by assumption))) hb); (try clear hb); (try clear hb2); (try clear hk); (try clear hi); (try clear ho0)) | ((with_reducible refine gate_dst (N := 20) rfl ?_); refine box_event rfl (N := 20) rfl (cs := #[.int .i64 0, .int .i64 0, .slice none 0 0]) (t := 35) (by go_simp; try rfl) ?_; intro gb569 hg w84 hbox hb; replace HO_8 := Aside0.mk (Kd.V_below (Kd.V_elderB (sV HO_8.out) gb569 (Nat.le_of_eq hg.symm)) hb); replace HO_544002 := Aside0.mk (Kd.R_below (sR HO_544002.out) hb); replace HO_555002 := Aside0.mk (Kd.R_below (sR HO_555002.out) hb); replace HO567 := Aside0.mk (Kd.R_below (sR HO567.out) hb); have BK569 := Aside0.mk (hbox); have GW569 := Aside0.mk ((by rw [hg]; exact (below_size (by repeat (first | exact sH HB.out | refine sN (w := w) ?_ | with_reducible refine sG (w := w) ?_ (by assumption)))) : w.heap.size ≤ gb569)); have GE569 := Aside0.mk ((by rw [hg]; exact (below_size (by repeat (first | exact sH HB.out | refine sN (w := w) ?_ | with_reducible refine sG (w := w) ?_ (by assumption)))) : w.heap.size ≤ gb569)); replace HB := Aside0.mk (below_step (by repeat (first | exact sH HB.out | refine sN (w := w) ?_ | with_reducible refine sG (w := w) ?_ (by assumption))) hb); have NB532_569 := Aside0.mk ((by rw [hg]; exact Nat.ne_of_lt (blk_lt (g := gb532) (o := .cells #[.int .i64 a0_0, .int .i64 a0_1, .int .i64 a0_2, .int .i64 a0_3] 24 (0, 0)) (by first | exact BK532.out | (refine sO ?_; exact BK532.out))) : gb532 ≠ gb569)); have NB569_532 := Aside0.mk ((by rw [hg]; exact Nat.ne_of_gt (blk_lt (g := gb532) (o := .cells #[.int .i64 a0_0, .int .i64 a0_1, .int .i64 a0_2, .int .i64 a0_3] 24 (0, 0)) (by first | exact BK532.out | (refine sO ?_; exact BK532.out))) : gb569 ≠ gb532)); replace BK532 := kB BK532 hb; have NB543_569 := Aside0.mk ((by rw [hg]; exact Nat.ne_of_lt (blk_lt (g := gb543) (o := .cells #[.int .i64 t537, .int .i64 t538, .slice Ao80 x544002_3.length co80] 35 (0, 0)) (by first | exact BK543.out | (refine sO ?_; exact BK543.out))) : gb543 ≠ gb569)); have NB569_543 := Aside0.mk ((by rw [hg]; exact Nat.ne_of_gt (blk_lt (g := gb543) (o := .cells #[.int .i64 t537, .int .i64 t538, .slice Ao80 x544002_3.length co80] 35 (0, 0)) (by first | exact BK543.out | (refine sO ?_; exact BK543.out))) : gb569 ≠ gb543)); replace BK543 := kB BK543 hb; have NB554_569 := Aside0.mk ((by rw [hg]; exact Nat.ne_of_lt (blk_lt (g := gb554) (o := .cells #[.int .i64 t548, .int .i64 t549, u555002] 35 (0, 0)) (by first | exact BK554.out | (refine sO ?_; exact BK554.out))) : gb554 ≠ gb569)); have NB569_554 := Aside0.mk ((by rw [hg]; exact Nat.ne_of_gt (blk_lt (g := gb554) (o := .cells #[.int .i64 t548, .int .i64 t549, u555002] 35 (0, 0)) (by first | exact BK554.out | (refine sO ?_; exact BK554.out))) : gb569 ≠ gb554)); replace BK554 := kB BK554 hb; clear hb hbox hg; have hnb85 := NB569_532.out; have hnc85 := NB532_569.out; have hnb86 := NB569_543.out; have hnc86 := NB543_569.out; have hnb87 := NB569_554.out; have hnc87 := NB554_569.out; obtain ⟨hcz88_0, hcz88_1, hcz88_2, hfz88_0, hfz88_1, hfz88_2⟩ := cs3 BK569.out; obtain ⟨Ao89, co89, eo89⟩ := Kd.R_slice HO567.out; subst eo89; obtain ⟨hcz90_0, hcz90_1, hcz90_2, hfz90_0, hfz90_1, hfz90_2⟩ := cs3 BK554.out; obtain ⟨Ao91, co91, eo91⟩ := Kd.R_slice HO_555002.out; subst eo91) | (go_at_call 24; (with_reducible refine (twoslotref15_Same.calls k3 t563 t564 _ _ t565 t548 t549 _ _ x555002_3 true _ ?side1 ?side2 ?side3 ?side4 A72.out).mono ?_); (case side1 => refine (Kd.R_reads' (e := 27) (base := w.heap.size) (ok := fun k_ => ((True ∧ some k_ ≠ (.slice Ao80 x544002_3.length co80 : Value).ownBlock) ∧ some k_ ≠ (.slice Ao91 x555002_3.length co91 : Value).ownBlock)) (n := t565.length) (c := co89) ?_).2.2; exact (by (with_reducible repeat (first | apply Kd.R_alloc | apply Kd.R_drewN | apply Kd.R_drew)); exact (Kd.R_mono (Kd.R_far (p := ⟨gb569, 2, none⟩) (Kd.R_far (p := ⟨gb569, 1, none⟩) (Kd.R_far (p := ⟨gb569, 0, none⟩) (Kd.R_types HO567.out BK569.out (by decide)) (fun _ hk => hk.2) (.int .i64 t563)) (fun _ hk => hk.2) (.int .i64 t564)) (fun _ hk => hk.2) (.slice Ao89 t565.length co89)) (fun _ h_ => h_.1)))); (case side2 => exact (Kd.R_reads' HO567.out).2.1); (case side3 => refine (Kd.R_reads' (e := 27) (base := w.heap.size) (ok := fun k_ => (some k_ ≠ (.slice Ao80 x544002_3.length co80 : Value).ownBlock ∧ some k_ ≠ (.slice Ao89 t565.length co89 : Value).ownBlock)) (n := x555002_3.length) (c := co91) ?_).2.2; exact (by (with_reducible repeat (first | apply Kd.R_alloc | apply Kd.R_drewN | apply Kd.R_drew)); exact (Kd.R_mono (Kd.R_far (p := ⟨gb569, 2, none⟩) (Kd.R_far (p := ⟨gb569, 1, none⟩) (Kd.R_far (p := ⟨gb569, 0, none⟩) (Kd.R_types HO_555002.out BK569.out (by decide)) (fun _ hk => hk.2) (.int .i64 t563)) (fun _ hk => hk.2) (.int .i64 t564)) (fun _ hk => hk.2) (.slice Ao89 t565.length co89)) (fun _ h_ => h_.1)))); (case side4 => exact (Kd.R_reads' HO_555002.out).2.1); rintro e w92 ⟨rfl, hb⟩; replace HO_8 := Aside0.mk (Kd.V_below (by (with_reducible repeat (first | apply Kd.V_alloc | apply Kd.V_drewN | apply Kd.V_drew)); exact (Kd.V_mono (Kd.V_far (p := ⟨gb569, 2, none⟩) (Kd.V_far (p := ⟨gb569, 1, none⟩) (Kd.V_far (p := ⟨gb569, 0, none⟩) (Kd.V_mono HO_8.out (fun k_ hk => (⟨hk, hk.2⟩ : _ ∧ k_ ≠ gb569))) (fun _ hk => hk.2) (.int .i64 t563)) (fun _ hk => hk.2) (.int .i64 t564)) (fun _ hk => hk.2) (.slice Ao89 t565.length co89)) (fun _ h_ => h_.1))) hb); replace HO_544002 := Aside0.mk (Kd.R_below (by (with_reducible repeat (first | apply Kd.R_alloc | apply Kd.R_drewN | apply Kd.R_drew)); exact (Kd.R_mono (Kd.R_far (p := ⟨gb569, 2, none⟩) (Kd.R_far (p := ⟨gb569, 1, none⟩) (Kd.R_far (p := ⟨gb569, 0, none⟩) (Kd.R_types HO_544002.out BK569.out (by decide)) (fun _ hk => hk.2) (.int .i64 t563)) (fun _ hk => hk.2) (.int .i64 t564)) (fun _ hk => hk.2) (.slice Ao89 t565.length co89)) (fun _ h_ => h_.1))) hb); replace HO_555002 := Aside0.mk (Kd.R_below (by (with_reducible repeat (first | apply Kd.R_alloc | apply Kd.R_drewN | apply Kd.R_drew)); exact (Kd.R_mono (Kd.R_far (p := ⟨gb569, 2, none⟩) (Kd.R_far (p := ⟨gb569, 1, none⟩) (Kd.R_far (p := ⟨gb569, 0, none⟩) (Kd.R_types HO_555002.out BK569.out (by decide)) (fun _ hk => hk.2) (.int .i64 t563)) (fun _ hk => hk.2) (.int .i64 t564)) (fun _ hk => hk.2) (.slice Ao89 t565.length co89)) (fun _ h_ => h_.1))) hb); replace HO567 := Aside0.mk (Kd.R_below (by (with_reducible repeat (first | apply Kd.R_alloc | apply Kd.R_drewN | apply Kd.R_drew)); exact (Kd.R_mono (Kd.R_far (p := ⟨gb569, 2, none⟩) (Kd.R_far (p := ⟨gb569, 1, none⟩) (Kd.R_far (p := ⟨gb569, 0, none⟩) (Kd.R_types HO567.out BK569.out (by decide)) (fun _ hk => hk.2) (.int .i64 t563)) (fun _ hk => hk.2) (.int .i64 t564)) (fun _ hk => hk.2) (.slice Ao89 t565.length co89)) (fun _ h_ => h_.1))) hb); replace BK532 := Aside0.mk (blk_below (g := gb532) (o := .cells #[.int .i64 a0_0, .int .i64 a0_1, .int .i64 a0_2, .int .i64 a0_3] 24 (0, 0)) (by (try refine sO ?_); refine blk_far ?_ NB532_569.out _; (try refine sO ?_); refine blk_far ?_ NB532_569.out _; (try refine sO ?_); refine blk_far ?_ NB532_569.out _; first | exact BK532.out | (refine sO ?_; exact BK532.out)) hb); replace BK543 := Aside0.mk (blk_below (g := gb543) (o := .cells #[.int .i64 t537, .int .i64 t538, .slice Ao80 x544002_3.length co80] 35 (0, 0)) (by (try refine sO ?_); refine blk_far ?_ NB543_569.out _; (try refine sO ?_); refine blk_far ?_ NB543_569.out _; (try refine sO ?_); refine blk_far ?_ NB543_569.out _; first | exact BK543.out | (refine sO ?_; exact BK543.out)) hb); replace BK554 := Aside0.mk (blk_below (g := gb554) (o := .cells #[.int .i64 t548, .int .i64 t549, .slice Ao91 x555002_3.length co91] 35 (0, 0)) (by (try refine sO ?_); refine blk_far ?_ NB554_569.out _; (try refine sO ?_); refine blk_far ?_ NB554_569.out _; (try refine sO ?_); refine blk_far ?_ NB554_569.out _; first | exact BK554.out | (refine sO ?_; exact BK554.out)) hb); replace BK569 := Aside0.mk (blk_below (g := gb569) (o := .cells #[.int .i64 t563, .int .i64 t564, .slice Ao89 t565.length co89] 35 (0, 0)) (by (try refine sO ?_); refine blk_put (cs := #[.int .i64 t563, .int .i64 t564, .slice none 0 0]) ?_ 2 _ rfl; (try refine sO ?_); refine blk_put (cs := #[.int .i64 t563, .int .i64 0, .slice none 0 0]) ?_ 1 _ rfl; (try refine sO ?_); refine blk_put (cs := #[.int .i64 0, .int .i64 0, .slice none 0 0]) ?_ 0 _ rfl; first | exact BK569.out | (refine sO ?_; exact BK569.out)) hb); replace HB := Aside0.mk (below_step (by repeat (first | exact sH HB.out | refine sN (w := w) ?_ | with_reducible refine sG (w := w) ?_ (by assumption))) hb); (try clear hb); (try clear hb2); (try clear hk); (try clear hi); have hcv93 := conv_bytes.vstr (P := Try.prog) Try.underlying29 Try.underlying5 Try.underlying9 HO_8.out; have hcv94 := Kd.C_string (P := Try.prog) (A := A1) (c := c1) Try.underlying29 Try.underlying5 Try.underlying9 (Kd.C_below HR1.out HB.out)))
                                go_ret
                                exact ⟨by first | rfl | (simp [errW_none, errW_some] <;> rfl) | (simp [*, errW_none, errW_some] <;> rfl), by repeat (first | exact sH HB.out | refine sN (w := w) ?_ | with_reducible refine sG (w := w) ?_ (by assumption))⟩
                              · rw [if_neg c76] at H
                                exact absurd H (by simp)
                            · rw [if_neg c75] at H
                              exact absurd H (by simp)
                          · rw [if_neg c74] at H
                            exact absurd H (by simp)
                        · replace c73 := Bool.eq_false_iff.mpr c73
                          subst c73
                          have H1 : (none) = some r := by rw [if_neg (show ¬ (false = true) by decide)] at H; exact H
                          clear H
                          have H := H1
                          clear H1
                          exact absurd H (by simp)
                      · replace c71 := Bool.eq_false_iff.mpr c71
                        subst c71
                        have H1 : (none) = some r := by rw [if_neg (show ¬ (false = true) by decide)] at H; exact H
                        clear H
                        have H := H1
                        clear H1
                        exact absurd H (by simp)
  · replace c5 := Bool.eq_false_iff.mpr c5
    subst c5
    have H1 : (none) = some r := by rw [if_neg (show ¬ (false = true) by decide)] at H; exact H
    clear H
    have H := H1
    clear H1
    exact absurd H (by simp)

end Go.Proofs.Ytdpllcmpndcbnaa.P

import Derived.Test.YtemmhgfjfbdggaaP08E
namespace Go.Proofs.Ytemmhgfjfbdggaa.P
open Go.RowKit Go.Proofs.YtemmhgfjfbdggaaW.PrintWords Go.Proofs.YtemmhgfjfbdggaaW.PrintLast Go.Proofs.YtemmhgfjfbdggaaW.PrintMore
attribute [local go_sem] max2_int min2_int max_two min_two max_three min_three max_four min_four
set_option linter.unusedVariables false
set_option linter.unusedSimpArgs false
set_option maxHeartbeats 8000000 in
set_option maxRecDepth 100000 in
theorem Keeps_wiped (a b c d : Int) (Am : Option Addr) (cm : Nat) (sl : List (List Int)) (A : Option Addr) (cl : Nat) (l : List S51) (n : Int) (w : World) (hC : Kd.C (Kd.slice 5 (Kd.int .u8)) w Am sl.length sl) (hL : Kd.C k51 w A l.length l) (hcl : l.length ≤ cl) (hln : l.length ≤ 200) (hm : ¬ (a + b) * d > 400) (ho : OfOK a b c d sl) (q : Nat) (hat : atOf (List.replicate (a + b).toNat false).length d n 0 0 = (q : Int)) (slR : List (List Int)) (wR eR : Int) (hR : putsL (List.replicate (a + b).toNat false).length d (sizeOf08 a b c) l ⟨sl, false, -1, 0⟩ = (⟨slR, false, -1, wR⟩, eR)) : Calls Try.prog 5 #[.agg #[.int .i64 a, .int .i64 b, .int .i64 c, .int .i64 d, .slice Am sl.length cm], .slice A l.length cl, .int .i64 n] w fun e w' => e = .returned (.bool true) ∧ Below w.heap.size w w' := by
  have hu36 := Try.underlying36
  have hu23 := Try.underlying23
  have HB := Aside0.mk (Below.refl w.heap.size w)
  have HC := Aside0.mk hC
  have HL := Aside0.mk hL
  have HCL := Aside0.mk hcl
  have HLN := Aside0.mk hln
  have b1 : decide ((200 : Int) < (l.length : Int)) = false := decide_eq_false (by omega)
  have b1' : decide (200 < l.length) = false := decide_eq_false (by omega)
  have b1'' : (200 < l.length) = False := eq_false (by omega)
  clear hln
  have HM4 := Aside0.mk (Int.not_lt.mp hm)
  have HO := Aside0.mk ho
  have HGL := Aside0.mk (show (List.replicate (a + b).toNat false).length = (a + b).toNat from List.length_replicate)
  have HF0 := Aside0.mk (fit_start ho hm)
  clear hm ho
  have HR := Aside0.mk hR
  have HAT := Aside0.mk hat
  have HCB0 := Aside0.mk (show (-1 : Int) ≤ -1 ∧ (-1 : Int) ≤ 9223372036854775807 from ⟨by omega, by omega⟩)
  have HFR := Aside0.mk (show Fit a b c d (List.replicate (a + b).toNat false) ⟨slR, false, -1, wR⟩ by
    have h := fit_puts (s := ⟨sl, false, -1, 0⟩) (fit_start HO.out (Int.not_lt.mpr HM4.out)) l (by show (0 : Int) + l.length ≤ 1000000; have := HLN.out; omega)
    rw [hR] at h
    exact h)
  clear hR hat
  clear hC hL hcl
  go_enter Try.func5, Try.ntmps5
  have tok1 : True := trivial
  go_wp2_with (first | (have _ := tok1; (with_reducible refine gate_dst (N := 3) rfl ?_); refine box_event ?hg (N := 3) ?hd (cs := #[.int .i64 a, .int .i64 b, .int .i64 c, .int .i64 d, .slice Am sl.length cm]) (t := 36) ?hr ?_; (case hd => rfl); (case hg => rfl); (case hr => first | (go_simp; done) | (go_simp; rfl)); intro g3 hg w1 hbox hb; have hs : Below w.heap.size w w1 := below_step (by repeat (first | exact Below.refl _ _ | apply below_alloc | apply pw_below_drewN | apply below_drew1)) hb; have SZ1 := Aside0.mk (show w.heap.size ≤ g3 ∧ g3 < w1.heap.size from ⟨by rw [hg]; exact (below_size (by repeat (first | exact Below.refl _ _ | apply below_alloc | apply pw_below_drewN | apply below_drew1))), blk_lt hbox⟩); replace HB := Aside0.mk (below_step HB.out hs); have BKg3 := Aside0.mk hbox; clear hb hbox hg hs; have hcg3_0 : w1.cell? ⟨g3, 0, none⟩ = some (.int .i64 a) := (blk_cell BKg3.out 0).trans rfl; have hfg3_0 := blk_frozen BKg3.out 0; have hcg3_1 : w1.cell? ⟨g3, 1, none⟩ = some (.int .i64 b) := (blk_cell BKg3.out 1).trans rfl; have hfg3_1 := blk_frozen BKg3.out 1; have hcg3_2 : w1.cell? ⟨g3, 2, none⟩ = some (.int .i64 c) := (blk_cell BKg3.out 2).trans rfl; have hfg3_2 := blk_frozen BKg3.out 2; have hcg3_3 : w1.cell? ⟨g3, 3, none⟩ = some (.int .i64 d) := (blk_cell BKg3.out 3).trans rfl; have hfg3_3 := blk_frozen BKg3.out 3; have hcg3_4 : w1.cell? ⟨g3, 4, none⟩ = some (.slice Am sl.length cm) := (blk_cell BKg3.out 4).trans rfl; have hfg3_4 := blk_frozen BKg3.out 4; clear tok1; have tok2 : True := trivial) | (have _ := tok2; go_at_call 8; (with_reducible refine (awake_ev _).mono ?_); rintro e w2 ⟨rfl, hb⟩; (try clear hcg3_0 hfg3_0); (try clear hcg3_1 hfg3_1); (try clear hcg3_2 hfg3_2); (try clear hcg3_3 hfg3_3); (try clear hcg3_4 hfg3_4); have hs : Below w1.heap.size w1 w2 := below_step (by repeat (first | exact Below.refl _ _ | apply below_alloc | apply pw_below_drewN | apply below_drew1)) hb; have hl : w1.heap.size ≤ _ := below_size (w := w1) (by repeat (first | exact Below.refl _ _ | apply below_alloc | apply pw_below_drewN | apply below_drew1)); have SZ2 := Aside0.mk (show w1.heap.size ≤ w2.heap.size from hs.size); replace BKg3 := Aside0.mk (blk_below BKg3.out hs); replace HB := Aside0.mk (below_step HB.out hs); clear hb hs; (try clear hl); have hcg3_0 : w2.cell? ⟨g3, 0, none⟩ = some (.int .i64 a) := (blk_cell BKg3.out 0).trans rfl; have hfg3_0 := blk_frozen BKg3.out 0; have hcg3_1 : w2.cell? ⟨g3, 1, none⟩ = some (.int .i64 b) := (blk_cell BKg3.out 1).trans rfl; have hfg3_1 := blk_frozen BKg3.out 1; have hcg3_2 : w2.cell? ⟨g3, 2, none⟩ = some (.int .i64 c) := (blk_cell BKg3.out 2).trans rfl; have hfg3_2 := blk_frozen BKg3.out 2; have hcg3_3 : w2.cell? ⟨g3, 3, none⟩ = some (.int .i64 d) := (blk_cell BKg3.out 3).trans rfl; have hfg3_3 := blk_frozen BKg3.out 3; have hcg3_4 : w2.cell? ⟨g3, 4, none⟩ = some (.slice Am sl.length cm) := (blk_cell BKg3.out 4).trans rfl; have hfg3_4 := blk_frozen BKg3.out 4; clear tok2; have tok3 : True := trivial) | (have _ := tok3; go_at_call 15; (with_reducible refine (two_goodW a b c d Am cm sl _ ?s1 (Int.not_lt.mpr HM4.out) HO.out).mono ?_); (case s1 => exact Kd.C_below HC.out (by repeat (first | exact HB.out | apply below_alloc | apply pw_below_drewN | apply below_drew1))); rintro e w3 ⟨DA, DB, wt, rfl, hwt, ht⟩; (try clear hcg3_0 hfg3_0); (try clear hcg3_1 hfg3_1); (try clear hcg3_2 hfg3_2); (try clear hcg3_3 hfg3_3); (try clear hcg3_4 hfg3_4); have hbt : Below w.heap.size w wt := (by rw [hwt]; exact (by repeat (first | exact HB.out | apply below_alloc | apply pw_below_drewN | apply below_drew1))); have HBT := Aside0.mk hbt; have HLt := Aside0.mk (Kd.C_below HL.out hbt); have hbg : wt.heap[g3]? = some (.cells #[.int .i64 a, .int .i64 b, .int .i64 c, .int .i64 d, .slice Am sl.length cm] 36 (0, 0)) := (by rw [hwt]; (with_reducible repeat (first | refine blk_drewN ?_ _ | refine blk_drew ?_ | refine blk_alloc ?_ _)); exact BKg3.out); have BG3 := Aside0.mk hbg; clear hbg; have HT := Aside0.mk (show TwoD wt w3 (fun _ => False) a b c d DA DB (List.replicate (a + b).toNat false) ⟨sl, false, -1, 0⟩ (List.replicate (a + b).toNat false) ⟨sl, false, -1, 0⟩ from ht); clear HB; have HB := Aside0.mk (below_step hbt ht.below); clear hbt hwt ht BKg3; clear tok3; have tok4 : True := trivial) | (have _ := tok4; go_at_call 18; (with_reducible refine (WriteA_n l A cl l.length _ HR.out HF0.out HCB0.out HLt.out rfl HCL.out (by have := HLN.out; omega) (TwoD.step_ HT.out (by repeat (first | exact Below.refl _ _ | apply below_alloc | apply pw_below_drewN | apply below_drew1)))).mono ?_); rintro e w4 ⟨rfl, ht, _⟩; have n_ := Aside0.mk (show TwoD wt w4 (fun _ => False) a b c d DA DB (List.replicate (a + b).toNat false) ⟨slR, false, -1, wR⟩ (List.replicate (a + b).toNat false) ⟨sl, false, -1, 0⟩ from ht); clear HT HB; have HT := n_; have HB := Aside0.mk (below_step HBT.out ht.below); clear n_ ht; clear tok4))
  go_loopg [12, 13, 14] l.length (fun kq v12 v13 v14 wr => ∃ (k : Nat) (f made : Int) (st : DS), v12 = .int .i64 f ∧ v13 = .int .i64 made ∧ v14 = .int .i64 (k : Int) ∧ Aside0 (k ≤ l.length ∧ l.length - k ≤ kq) ∧ Aside0 (TwoD wt wr (fun _ => False) a b c d DA DB (List.replicate (a + b).toNat false) ⟨slR, false, -1, wR⟩ (List.replicate (a + b).toNat false) st) ∧ Aside0 (Fit a b c d (List.replicate (a + b).toNat false) st ∧ st.off = false ∧ st.cut = -1 ∧ ((f = 0 ∧ putsL (List.replicate (a + b).toNat false).length d (sizeOf08 a b c) (l.drop k) st = (⟨slR, false, -1, wR⟩, eR) ∧ made = k ∧ st.wr = k) ∨ (f ≠ 0 ∧ (⟨slR, false, -1, wR⟩, eR) = (st, f) ∧ made = st.wr))))
  case atStart =>
    exact ⟨0, 0, 0, ⟨sl, false, -1, 0⟩, rfl, rfl, rfl, Aside0.mk ⟨by omega, by omega⟩, HT, Aside0.mk ⟨HF0.out, rfl, rfl, .inl ⟨rfl, by rw [List.drop_zero]; exact HR.out, rfl, rfl⟩⟩⟩
  case round =>
    clear HT HB
    obtain ⟨k, f, made, ⟨sl1, o1, c1, n1⟩, rfl, rfl, rfl, AX, HT, HP_⟩ := hrel
    have hp := HP_.out
    clear HP_
    obtain ⟨hp1, hp2, hp3, hp4⟩ := hp
    obtain rfl : o1 = false := hp2
    obtain rfl : c1 = -1 := hp3
    have HF1 := Aside0.mk hp1
    have HB := Aside0.mk (below_step HBT.out HT.out.below)
    clear hp1
    by_cases hk : k < l.length
    · rcases hp4 with ⟨hf, hd, hm, hw⟩ | ⟨hf, he, hm⟩
      rotate_left
      · have b2 : decide ((k : Int) < (l.length : Int)) = true := decide_eq_true (by omega)
        have b2' : decide (k < l.length) = true := decide_eq_true hk
        have b2'' : (k < l.length) = True := eq_true hk
        have d0 : (f == 0) = false := beq_false_of_ne hf
        have d0' : (f = 0) = False := eq_false hf
        clear hk hf
        injection he with he1 he2
        injection he1 with he3 _ _ he4
        subst he3
        subst he4
        subst he2
        have hm_ := hm.symm
        subst hm_
        have BKg3 := Aside0.mk (blk_below BG3.out HT.out.below)
        have HZ3 := Aside0.mk (show g3 < wr.heap.size from blk_lt BKg3.out)
        have HW0 := Aside0.mk (show wt.heap.size ≤ wr.heap.size from HT.out.below.size)
        have HWW := Aside0.mk (show w.heap.size ≤ wt.heap.size from HBT.out.size)
        clear HF1
        have hcg3_3 : wr.cell? ⟨g3, 3, none⟩ = some (.int .i64 d) := (blk_cell BKg3.out 3).trans rfl
        have hfg3_3 := blk_frozen BKg3.out 3
        have tok5 : True := trivial
        go_wp2_with (first | (have _ := tok5; go_at_call 17; (with_reducible refine (alike_yes wt (fun _ => False) a b c d DA DB (List.replicate (a + b).toNat false) (List.replicate (a + b).toNat false) slR false (-1) (-1) wR _ HFR.out HFR.out (TwoD.step_ HT.out (by repeat (first | exact Below.refl _ _ | apply below_alloc | apply pw_below_drewN | apply below_drew1)))).mono ?_); rintro e w5 ⟨rfl, hb⟩; (try clear hcg3_3 hfg3_3); have hs : Below wr.heap.size wr w5 := below_step (by repeat (first | exact Below.refl _ _ | apply below_alloc | apply pw_below_drewN | apply below_drew1)) hb; have hl : wr.heap.size ≤ _ := below_size (w := wr) (by repeat (first | exact Below.refl _ _ | apply below_alloc | apply pw_below_drewN | apply below_drew1)); have SZ5 := Aside0.mk (show wr.heap.size ≤ w5.heap.size from hs.size); replace HT := Aside0.mk (TwoD.step_ HT.out hs); replace BKg3 := Aside0.mk (blk_below BKg3.out hs); replace HB := Aside0.mk (below_step HB.out hs); clear hb hs; (try clear hl); have hcg3_3 : w5.cell? ⟨g3, 3, none⟩ = some (.int .i64 d) := (blk_cell BKg3.out 3).trans rfl; have hfg3_3 := blk_frozen BKg3.out 3; clear tok5; have tok6 : True := trivial) | (have _ := tok6; go_at_call 20; (with_reducible refine (WritesA (TwoD.step_ HT.out (by repeat (first | exact Below.refl _ _ | apply below_alloc | apply pw_below_drewN | apply below_drew1)))).mono ?_); rintro e w6 ⟨rfl, hb⟩; (try clear hcg3_3 hfg3_3); have hs : Below w5.heap.size w5 w6 := below_step (by repeat (first | exact Below.refl _ _ | apply below_alloc | apply pw_below_drewN | apply below_drew1)) hb; have hl : w5.heap.size ≤ _ := below_size (w := w5) (by repeat (first | exact Below.refl _ _ | apply below_alloc | apply pw_below_drewN | apply below_drew1)); have SZ6 := Aside0.mk (show w5.heap.size ≤ w6.heap.size from hs.size); replace HT := Aside0.mk (TwoD.step_ HT.out hs); replace BKg3 := Aside0.mk (blk_below BKg3.out hs); replace HB := Aside0.mk (below_step HB.out hs); clear hb hs; (try clear hl); have hcg3_3 : w6.cell? ⟨g3, 3, none⟩ = some (.int .i64 d) := (blk_cell BKg3.out 3).trans rfl; have hfg3_3 := blk_frozen BKg3.out 3; clear tok6; have tok7 : True := trivial) | (have _ := tok7; go_at_call 23; (with_reducible refine (ImageA HFR.out (TwoD.step_ HT.out (by repeat (first | exact Below.refl _ _ | apply below_alloc | apply pw_below_drewN | apply below_drew1)))).mono ?_); rintro e w7 ⟨v, rfl, ho, hb⟩; (try clear hcg3_3 hfg3_3); have hs : Below w6.heap.size w6 w7 := below_step (by repeat (first | exact Below.refl _ _ | apply below_alloc | apply pw_below_drewN | apply below_drew1)) hb; have hl : w6.heap.size ≤ _ := below_size (w := w6) (by repeat (first | exact Below.refl _ _ | apply below_alloc | apply pw_below_drewN | apply below_drew1)); have SZ7 := Aside0.mk (show w6.heap.size ≤ w7.heap.size from hs.size); replace HT := Aside0.mk (TwoD.step HT.out hs); replace BKg3 := Aside0.mk (blk_below BKg3.out hs); have HOm := Aside0.mk (R_iv ho (below_size (by repeat (first | exact HB.out | apply below_alloc | apply pw_below_drewN | apply below_drew1))) hl); replace HB := Aside0.mk (below_step HB.out hs); clear ho; obtain ⟨m_A, m_c, e_⟩ := Kd.R_slice HOm.out; subst e_; clear hb hs; (try clear hl); have hcg3_3 : w7.cell? ⟨g3, 3, none⟩ = some (.int .i64 d) := (blk_cell BKg3.out 3).trans rfl; have hfg3_3 := blk_frozen BKg3.out 3; clear tok7; have tok8 : True := trivial) | (have _ := tok8; (with_reducible refine gate_dst (N := 17) rfl ?_); refine box_event ?hg (N := 17) ?hd (cs := #[.int .i64 0, .int .i64 0, .int .i64 0, .int .i64 0, .slice none 0 0]) (t := 36) ?hr ?_; (case hd => rfl); (case hg => rfl); (case hr => first | (go_simp; done) | (go_simp; rfl)); intro g17 hg w8 hbox hb; have hs : Below w7.heap.size w7 w8 := below_step (by repeat (first | exact Below.refl _ _ | apply below_alloc | apply pw_below_drewN | apply below_drew1)) hb; have SZ8 := Aside0.mk (show w7.heap.size ≤ g17 ∧ g17 < w8.heap.size from ⟨by rw [hg]; exact (below_size (by repeat (first | exact Below.refl _ _ | apply below_alloc | apply pw_below_drewN | apply below_drew1))), blk_lt hbox⟩); (try clear hcg3_3 hfg3_3); replace HT := Aside0.mk (TwoD.step HT.out hs); replace BKg3 := Aside0.mk (blk_below BKg3.out hs); replace HOm := Aside0.mk (Kd.R_below HOm.out hs); replace HB := Aside0.mk (below_step HB.out hs); have hneg3_g17 : g3 ≠ g17 := (by have := SZ8.out; have := HW0.out; have := HZ3.out; have := HWW.out; have := SZ5.out; have := SZ6.out; have := SZ7.out; omega); have hneg17_g3 : g17 ≠ g3 := hneg3_g17.symm; have BKg17 := Aside0.mk hbox; clear hb hbox hg hs; have hcg3_3 : w8.cell? ⟨g3, 3, none⟩ = some (.int .i64 d) := (blk_cell BKg3.out 3).trans rfl; have hfg3_3 := blk_frozen BKg3.out 3; have hcg17_0 : w8.cell? ⟨g17, 0, none⟩ = some (.int .i64 0) := (blk_cell BKg17.out 0).trans rfl; have hfg17_0 := blk_frozen BKg17.out 0; have hcg17_1 : w8.cell? ⟨g17, 1, none⟩ = some (.int .i64 0) := (blk_cell BKg17.out 1).trans rfl; have hfg17_1 := blk_frozen BKg17.out 1; have hcg17_2 : w8.cell? ⟨g17, 2, none⟩ = some (.int .i64 0) := (blk_cell BKg17.out 2).trans rfl; have hfg17_2 := blk_frozen BKg17.out 2; have hcg17_3 : w8.cell? ⟨g17, 3, none⟩ = some (.int .i64 0) := (blk_cell BKg17.out 3).trans rfl; have hfg17_3 := blk_frozen BKg17.out 3; have hcg17_4 : w8.cell? ⟨g17, 4, none⟩ = some (.slice none 0 0) := (blk_cell BKg17.out 4).trans rfl; have hfg17_4 := blk_frozen BKg17.out 4; clear tok8))
        (try clear hcg3_3 hfg3_3)
        (try clear hcg17_0 hfg17_0)
        (try clear hcg17_1 hfg17_1)
        (try clear hcg17_2 hfg17_2)
        (try clear hcg17_3 hfg17_3)
        (try clear hcg17_4 hfg17_4)
        replace HT := Aside0.mk (TwoD.cell HT.out (g := g17) (j := 0) (Or.inr SZ8.out) (by have := HW0.out; have := HW0.out; have := HZ3.out; have := HWW.out; have := SZ5.out; have := SZ6.out; have := SZ7.out; have := SZ8.out; omega) (.int .i64 a))
        replace BKg3 := Aside0.mk (blk_far BKg3.out (p := ⟨g17, 0, none⟩) (by show _ ≠ _; have := HW0.out; have := HZ3.out; have := HWW.out; have := SZ5.out; have := SZ6.out; have := SZ7.out; have := SZ8.out; omega) (.int .i64 a))
        replace HOm := Aside0.mk (Kd.R_far HOm.out (p := ⟨g17, 0, none⟩) (Iv_ne (g := g17) (by have := HW0.out; have := HZ3.out; have := HWW.out; have := SZ5.out; have := SZ6.out; have := SZ7.out; have := SZ8.out; omega)) (.int .i64 a))
        replace BKg17 := Aside0.mk (blk_put BKg17.out 0 (.int .i64 a) rfl)
        replace HB := Aside0.mk (below_set HB.out (by have := HW0.out; have := HZ3.out; have := HWW.out; have := SZ5.out; have := SZ6.out; have := SZ7.out; have := SZ8.out; omega : w.heap.size ≤ g17) (j := 0) (v := .int .i64 a))
        replace HT := Aside0.mk (TwoD.cell HT.out (g := g17) (j := 1) (Or.inr SZ8.out) (by have := HW0.out; have := HW0.out; have := HZ3.out; have := HWW.out; have := SZ5.out; have := SZ6.out; have := SZ7.out; have := SZ8.out; omega) (.int .i64 b))
        replace BKg3 := Aside0.mk (blk_far BKg3.out (p := ⟨g17, 1, none⟩) (by show _ ≠ _; have := HW0.out; have := HZ3.out; have := HWW.out; have := SZ5.out; have := SZ6.out; have := SZ7.out; have := SZ8.out; omega) (.int .i64 b))
        replace HOm := Aside0.mk (Kd.R_far HOm.out (p := ⟨g17, 1, none⟩) (Iv_ne (g := g17) (by have := HW0.out; have := HZ3.out; have := HWW.out; have := SZ5.out; have := SZ6.out; have := SZ7.out; have := SZ8.out; omega)) (.int .i64 b))
        replace BKg17 := Aside0.mk (blk_put BKg17.out 1 (.int .i64 b) rfl)
        replace HB := Aside0.mk (below_set HB.out (by have := HW0.out; have := HZ3.out; have := HWW.out; have := SZ5.out; have := SZ6.out; have := SZ7.out; have := SZ8.out; omega : w.heap.size ≤ g17) (j := 1) (v := .int .i64 b))
        replace HT := Aside0.mk (TwoD.cell HT.out (g := g17) (j := 2) (Or.inr SZ8.out) (by have := HW0.out; have := HW0.out; have := HZ3.out; have := HWW.out; have := SZ5.out; have := SZ6.out; have := SZ7.out; have := SZ8.out; omega) (.int .i64 c))
        replace BKg3 := Aside0.mk (blk_far BKg3.out (p := ⟨g17, 2, none⟩) (by show _ ≠ _; have := HW0.out; have := HZ3.out; have := HWW.out; have := SZ5.out; have := SZ6.out; have := SZ7.out; have := SZ8.out; omega) (.int .i64 c))
        replace HOm := Aside0.mk (Kd.R_far HOm.out (p := ⟨g17, 2, none⟩) (Iv_ne (g := g17) (by have := HW0.out; have := HZ3.out; have := HWW.out; have := SZ5.out; have := SZ6.out; have := SZ7.out; have := SZ8.out; omega)) (.int .i64 c))
        replace BKg17 := Aside0.mk (blk_put BKg17.out 2 (.int .i64 c) rfl)
        replace HB := Aside0.mk (below_set HB.out (by have := HW0.out; have := HZ3.out; have := HWW.out; have := SZ5.out; have := SZ6.out; have := SZ7.out; have := SZ8.out; omega : w.heap.size ≤ g17) (j := 2) (v := .int .i64 c))
        replace HT := Aside0.mk (TwoD.cell HT.out (g := g17) (j := 3) (Or.inr SZ8.out) (by have := HW0.out; have := HW0.out; have := HZ3.out; have := HWW.out; have := SZ5.out; have := SZ6.out; have := SZ7.out; have := SZ8.out; omega) (.int .i64 d))
        replace BKg3 := Aside0.mk (blk_far BKg3.out (p := ⟨g17, 3, none⟩) (by show _ ≠ _; have := HW0.out; have := HZ3.out; have := HWW.out; have := SZ5.out; have := SZ6.out; have := SZ7.out; have := SZ8.out; omega) (.int .i64 d))
        replace HOm := Aside0.mk (Kd.R_far HOm.out (p := ⟨g17, 3, none⟩) (Iv_ne (g := g17) (by have := HW0.out; have := HZ3.out; have := HWW.out; have := SZ5.out; have := SZ6.out; have := SZ7.out; have := SZ8.out; omega)) (.int .i64 d))
        replace BKg17 := Aside0.mk (blk_put BKg17.out 3 (.int .i64 d) rfl)
        replace HB := Aside0.mk (below_set HB.out (by have := HW0.out; have := HZ3.out; have := HWW.out; have := SZ5.out; have := SZ6.out; have := SZ7.out; have := SZ8.out; omega : w.heap.size ≤ g17) (j := 3) (v := .int .i64 d))
        replace HT := Aside0.mk (TwoD.cell HT.out (g := g17) (j := 4) (Or.inr SZ8.out) (by have := HW0.out; have := HW0.out; have := HZ3.out; have := HWW.out; have := SZ5.out; have := SZ6.out; have := SZ7.out; have := SZ8.out; omega) (.slice m_A slR.length m_c))
        replace BKg3 := Aside0.mk (blk_far BKg3.out (p := ⟨g17, 4, none⟩) (by show _ ≠ _; have := HW0.out; have := HZ3.out; have := HWW.out; have := SZ5.out; have := SZ6.out; have := SZ7.out; have := SZ8.out; omega) (.slice m_A slR.length m_c))
        replace HOm := Aside0.mk (Kd.R_far HOm.out (p := ⟨g17, 4, none⟩) (Iv_ne (g := g17) (by have := HW0.out; have := HZ3.out; have := HWW.out; have := SZ5.out; have := SZ6.out; have := SZ7.out; have := SZ8.out; omega)) (.slice m_A slR.length m_c))
        replace BKg17 := Aside0.mk (blk_put BKg17.out 4 (.slice m_A slR.length m_c) rfl)
        replace HB := Aside0.mk (below_set HB.out (by have := HW0.out; have := HZ3.out; have := HWW.out; have := SZ5.out; have := SZ6.out; have := SZ7.out; have := SZ8.out; omega : w.heap.size ≤ g17) (j := 4) (v := .slice m_A slR.length m_c))
        have SZ9 := Aside0.mk (show w8.heap.size ≤ (((((w8.setCell ⟨g17, 0, none⟩ (.int .i64 a)).setCell ⟨g17, 1, none⟩ (.int .i64 b)).setCell ⟨g17, 2, none⟩ (.int .i64 c)).setCell ⟨g17, 3, none⟩ (.int .i64 d)).setCell ⟨g17, 4, none⟩ (.slice m_A slR.length m_c)).heap.size from by simp [World.setCell])
        generalize (((((w8.setCell ⟨g17, 0, none⟩ (.int .i64 a)).setCell ⟨g17, 1, none⟩ (.int .i64 b)).setCell ⟨g17, 2, none⟩ (.int .i64 c)).setCell ⟨g17, 3, none⟩ (.int .i64 d)).setCell ⟨g17, 4, none⟩ (.slice m_A slR.length m_c)) = w9 at HB HT BKg3 HOm BKg17 SZ9 ⊢
        have hcg3_3 : w9.cell? ⟨g3, 3, none⟩ = some (.int .i64 d) := (blk_cell BKg3.out 3).trans rfl
        have hfg3_3 := blk_frozen BKg3.out 3
        have hcg17_4 : w9.cell? ⟨g17, 4, none⟩ = some (.slice m_A slR.length m_c) := (blk_cell BKg17.out 4).trans rfl
        have hfg17_4 := blk_frozen BKg17.out 4
        have HFW := Aside0.mk (fit_wipe HFR.out q (2 * d.toNat) n.toNat)
        have HFZ := Aside0.mk (fit_clear HFW.out ((List.replicate (a + b).toNat false).set n.toNat true).length)
        have HSLN := Aside0.mk (show (wipeF [] slR q (2 * d.toNat)).length = slR.length from wipeF_len _ _ _ _)
        have tok9 : True := trivial
        go_wp2_with (first | (have _ := tok9; go_at_call 24; (with_reducible refine (WipeA n q HFR.out HAT.out (TwoD.step_ HT.out (by repeat (first | exact Below.refl _ _ | apply below_alloc | apply pw_below_drewN | apply below_drew1)))).mono ?_); rintro e w10 ⟨rfl, ht, hx⟩; (try clear hcg3_3 hfg3_3); (try clear hcg17_4 hfg17_4); replace BKg17 := Aside0.mk (blk_X (by (with_reducible repeat (first | refine blk_drewN ?_ _ | refine blk_drew ?_ | refine blk_alloc ?_ _)); exact BKg17.out) (Or.inr SZ8.out) hx); replace HOm := Aside0.mk (Kd.R_step (Kd.R_below HOm.out (by repeat (first | exact Below.refl _ _ | apply below_alloc | apply pw_below_drewN | apply below_drew1))) (fun k ho _ => hx k (Or.inl (Or.inr ho)))); have SZ10 := Aside0.mk (show g17 < w10.heap.size from blk_lt BKg17.out); have n_ := Aside0.mk (show TwoD wt w10 _ a b c d DA DB ((List.replicate (a + b).toNat false).set n.toNat true) ⟨(wipeF [] slR q (2 * d.toNat)), false, -1, wR⟩ (List.replicate (a + b).toNat false) ⟨slR, false, -1, wR⟩ from ht); clear HT HB BKg3; have HT := n_; have HB := Aside0.mk (below_step HBT.out ht.below); have BKg3 := Aside0.mk (blk_below BG3.out ht.below); have HZ4 := Aside0.mk (show wt.heap.size ≤ w10.heap.size from ht.below.size); have HZ5 := Aside0.mk (show g3 < w10.heap.size from blk_lt BKg3.out); clear n_ ht hx; have hcg3_3 : w10.cell? ⟨g3, 3, none⟩ = some (.int .i64 d) := (blk_cell BKg3.out 3).trans rfl; have hfg3_3 := blk_frozen BKg3.out 3; have hcg17_4 : w10.cell? ⟨g17, 4, none⟩ = some (.slice m_A slR.length m_c) := (blk_cell BKg17.out 4).trans rfl; have hfg17_4 := blk_frozen BKg17.out 4; clear tok9))
        have tok10 : True := trivial
        go_wp2_with (first | (have _ := tok10; go_at_call 23; (with_reducible refine (ImageA HFW.out (TwoD.step_ HT.out (by repeat (first | exact Below.refl _ _ | apply below_alloc | apply pw_below_drewN | apply below_drew1)))).mono ?_); rintro e w11 ⟨v, rfl, ho, hb⟩; (try clear hcg3_3 hfg3_3); (try clear hcg17_4 hfg17_4); have hs : Below w10.heap.size w10 w11 := below_step (by repeat (first | exact Below.refl _ _ | apply below_alloc | apply pw_below_drewN | apply below_drew1)) hb; have hl : w10.heap.size ≤ _ := below_size (w := w10) (by repeat (first | exact Below.refl _ _ | apply below_alloc | apply pw_below_drewN | apply below_drew1)); have SZ11 := Aside0.mk (show w10.heap.size ≤ w11.heap.size from hs.size); replace HT := Aside0.mk (TwoD.step HT.out hs); replace BKg3 := Aside0.mk (blk_below BKg3.out hs); replace HOm := Aside0.mk (Kd.R_below HOm.out hs); replace BKg17 := Aside0.mk (blk_below BKg17.out hs); have HOn := Aside0.mk (R_iv ho (below_size (by repeat (first | exact HB.out | apply below_alloc | apply pw_below_drewN | apply below_drew1))) hl); replace HB := Aside0.mk (below_step HB.out hs); clear ho; obtain ⟨n_A, n_c, e_⟩ := Kd.R_slice HOn.out; rw [HSLN.out] at e_; subst e_; clear hb hs; (try clear hl); have hcg3_3 : w11.cell? ⟨g3, 3, none⟩ = some (.int .i64 d) := (blk_cell BKg3.out 3).trans rfl; have hfg3_3 := blk_frozen BKg3.out 3; have hcg17_4 : w11.cell? ⟨g17, 4, none⟩ = some (.slice m_A slR.length m_c) := (blk_cell BKg17.out 4).trans rfl; have hfg17_4 := blk_frozen BKg17.out 4; clear tok10; have tok11 : True := trivial) | (have _ := tok11; (with_reducible refine gate_dst (N := 19) rfl ?_); refine box_event ?hg (N := 19) ?hd (cs := #[.int .i64 0, .int .i64 0, .int .i64 0, .int .i64 0, .slice none 0 0]) (t := 36) ?hr ?_; (case hd => rfl); (case hg => rfl); (case hr => first | (go_simp; done) | (go_simp; rfl)); intro g19 hg w12 hbox hb; have hs : Below w11.heap.size w11 w12 := below_step (by repeat (first | exact Below.refl _ _ | apply below_alloc | apply pw_below_drewN | apply below_drew1)) hb; have SZ12 := Aside0.mk (show w11.heap.size ≤ g19 ∧ g19 < w12.heap.size from ⟨by rw [hg]; exact (below_size (by repeat (first | exact Below.refl _ _ | apply below_alloc | apply pw_below_drewN | apply below_drew1))), blk_lt hbox⟩); (try clear hcg3_3 hfg3_3); (try clear hcg17_4 hfg17_4); replace HT := Aside0.mk (TwoD.step HT.out hs); replace BKg3 := Aside0.mk (blk_below BKg3.out hs); replace HOm := Aside0.mk (Kd.R_below HOm.out hs); replace BKg17 := Aside0.mk (blk_below BKg17.out hs); replace HOn := Aside0.mk (Kd.R_below HOn.out hs); replace HB := Aside0.mk (below_step HB.out hs); have hneg3_g19 : g3 ≠ g19 := (by have := SZ12.out; have := HZ4.out; have := HZ5.out; have := HWW.out; have := SZ8.out; have := SZ10.out; have := SZ11.out; omega); have hneg19_g3 : g19 ≠ g3 := hneg3_g19.symm; have hneg17_g19 : g17 ≠ g19 := (by have := SZ12.out; have := HZ4.out; have := HZ5.out; have := HWW.out; have := SZ8.out; have := SZ10.out; have := SZ11.out; omega); have hneg19_g17 : g19 ≠ g17 := hneg17_g19.symm; have BKg19 := Aside0.mk hbox; clear hb hbox hg hs; have hcg3_3 : w12.cell? ⟨g3, 3, none⟩ = some (.int .i64 d) := (blk_cell BKg3.out 3).trans rfl; have hfg3_3 := blk_frozen BKg3.out 3; have hcg17_4 : w12.cell? ⟨g17, 4, none⟩ = some (.slice m_A slR.length m_c) := (blk_cell BKg17.out 4).trans rfl; have hfg17_4 := blk_frozen BKg17.out 4; have hcg19_0 : w12.cell? ⟨g19, 0, none⟩ = some (.int .i64 0) := (blk_cell BKg19.out 0).trans rfl; have hfg19_0 := blk_frozen BKg19.out 0; have hcg19_1 : w12.cell? ⟨g19, 1, none⟩ = some (.int .i64 0) := (blk_cell BKg19.out 1).trans rfl; have hfg19_1 := blk_frozen BKg19.out 1; have hcg19_2 : w12.cell? ⟨g19, 2, none⟩ = some (.int .i64 0) := (blk_cell BKg19.out 2).trans rfl; have hfg19_2 := blk_frozen BKg19.out 2; have hcg19_3 : w12.cell? ⟨g19, 3, none⟩ = some (.int .i64 0) := (blk_cell BKg19.out 3).trans rfl; have hfg19_3 := blk_frozen BKg19.out 3; have hcg19_4 : w12.cell? ⟨g19, 4, none⟩ = some (.slice none 0 0) := (blk_cell BKg19.out 4).trans rfl; have hfg19_4 := blk_frozen BKg19.out 4; clear tok11))
        (try clear hcg3_3 hfg3_3)
        (try clear hcg17_4 hfg17_4)
        (try clear hcg19_0 hfg19_0)
        (try clear hcg19_1 hfg19_1)
        (try clear hcg19_2 hfg19_2)
        (try clear hcg19_3 hfg19_3)
        (try clear hcg19_4 hfg19_4)
        replace HT := Aside0.mk (TwoD.cell HT.out (g := g19) (j := 0) (Or.inr SZ12.out) (by have := HW0.out; have := HZ4.out; have := HZ5.out; have := HWW.out; have := SZ8.out; have := SZ10.out; have := SZ11.out; have := SZ12.out; omega) (.int .i64 a))
        replace BKg3 := Aside0.mk (blk_far BKg3.out (p := ⟨g19, 0, none⟩) (by show _ ≠ _; have := HZ4.out; have := HZ5.out; have := HWW.out; have := SZ8.out; have := SZ10.out; have := SZ11.out; have := SZ12.out; omega) (.int .i64 a))
        replace HOm := Aside0.mk (Kd.R_far HOm.out (p := ⟨g19, 0, none⟩) (Iv_ne (g := g19) (by have := HZ4.out; have := HZ5.out; have := HWW.out; have := SZ8.out; have := SZ10.out; have := SZ11.out; have := SZ12.out; omega)) (.int .i64 a))
        replace BKg17 := Aside0.mk (blk_far BKg17.out (p := ⟨g19, 0, none⟩) (by show _ ≠ _; have := HZ4.out; have := HZ5.out; have := HWW.out; have := SZ8.out; have := SZ10.out; have := SZ11.out; have := SZ12.out; omega) (.int .i64 a))
        replace HOn := Aside0.mk (Kd.R_far HOn.out (p := ⟨g19, 0, none⟩) (Iv_ne (g := g19) (by have := HZ4.out; have := HZ5.out; have := HWW.out; have := SZ8.out; have := SZ10.out; have := SZ11.out; have := SZ12.out; omega)) (.int .i64 a))
        replace BKg19 := Aside0.mk (blk_put BKg19.out 0 (.int .i64 a) rfl)
        replace HB := Aside0.mk (below_set HB.out (by have := HZ4.out; have := HZ5.out; have := HWW.out; have := SZ8.out; have := SZ10.out; have := SZ11.out; have := SZ12.out; omega : w.heap.size ≤ g19) (j := 0) (v := .int .i64 a))
        replace HT := Aside0.mk (TwoD.cell HT.out (g := g19) (j := 1) (Or.inr SZ12.out) (by have := HW0.out; have := HZ4.out; have := HZ5.out; have := HWW.out; have := SZ8.out; have := SZ10.out; have := SZ11.out; have := SZ12.out; omega) (.int .i64 b))
        replace BKg3 := Aside0.mk (blk_far BKg3.out (p := ⟨g19, 1, none⟩) (by show _ ≠ _; have := HZ4.out; have := HZ5.out; have := HWW.out; have := SZ8.out; have := SZ10.out; have := SZ11.out; have := SZ12.out; omega) (.int .i64 b))
        replace HOm := Aside0.mk (Kd.R_far HOm.out (p := ⟨g19, 1, none⟩) (Iv_ne (g := g19) (by have := HZ4.out; have := HZ5.out; have := HWW.out; have := SZ8.out; have := SZ10.out; have := SZ11.out; have := SZ12.out; omega)) (.int .i64 b))
        replace BKg17 := Aside0.mk (blk_far BKg17.out (p := ⟨g19, 1, none⟩) (by show _ ≠ _; have := HZ4.out; have := HZ5.out; have := HWW.out; have := SZ8.out; have := SZ10.out; have := SZ11.out; have := SZ12.out; omega) (.int .i64 b))
        replace HOn := Aside0.mk (Kd.R_far HOn.out (p := ⟨g19, 1, none⟩) (Iv_ne (g := g19) (by have := HZ4.out; have := HZ5.out; have := HWW.out; have := SZ8.out; have := SZ10.out; have := SZ11.out; have := SZ12.out; omega)) (.int .i64 b))
        replace BKg19 := Aside0.mk (blk_put BKg19.out 1 (.int .i64 b) rfl)
        replace HB := Aside0.mk (below_set HB.out (by have := HZ4.out; have := HZ5.out; have := HWW.out; have := SZ8.out; have := SZ10.out; have := SZ11.out; have := SZ12.out; omega : w.heap.size ≤ g19) (j := 1) (v := .int .i64 b))
        replace HT := Aside0.mk (TwoD.cell HT.out (g := g19) (j := 2) (Or.inr SZ12.out) (by have := HW0.out; have := HZ4.out; have := HZ5.out; have := HWW.out; have := SZ8.out; have := SZ10.out; have := SZ11.out; have := SZ12.out; omega) (.int .i64 c))
        replace BKg3 := Aside0.mk (blk_far BKg3.out (p := ⟨g19, 2, none⟩) (by show _ ≠ _; have := HZ4.out; have := HZ5.out; have := HWW.out; have := SZ8.out; have := SZ10.out; have := SZ11.out; have := SZ12.out; omega) (.int .i64 c))
        replace HOm := Aside0.mk (Kd.R_far HOm.out (p := ⟨g19, 2, none⟩) (Iv_ne (g := g19) (by have := HZ4.out; have := HZ5.out; have := HWW.out; have := SZ8.out; have := SZ10.out; have := SZ11.out; have := SZ12.out; omega)) (.int .i64 c))
        replace BKg17 := Aside0.mk (blk_far BKg17.out (p := ⟨g19, 2, none⟩) (by show _ ≠ _; have := HZ4.out; have := HZ5.out; have := HWW.out; have := SZ8.out; have := SZ10.out; have := SZ11.out; have := SZ12.out; omega) (.int .i64 c))
        replace HOn := Aside0.mk (Kd.R_far HOn.out (p := ⟨g19, 2, none⟩) (Iv_ne (g := g19) (by have := HZ4.out; have := HZ5.out; have := HWW.out; have := SZ8.out; have := SZ10.out; have := SZ11.out; have := SZ12.out; omega)) (.int .i64 c))
        replace BKg19 := Aside0.mk (blk_put BKg19.out 2 (.int .i64 c) rfl)
        replace HB := Aside0.mk (below_set HB.out (by have := HZ4.out; have := HZ5.out; have := HWW.out; have := SZ8.out; have := SZ10.out; have := SZ11.out; have := SZ12.out; omega : w.heap.size ≤ g19) (j := 2) (v := .int .i64 c))
        replace HT := Aside0.mk (TwoD.cell HT.out (g := g19) (j := 3) (Or.inr SZ12.out) (by have := HW0.out; have := HZ4.out; have := HZ5.out; have := HWW.out; have := SZ8.out; have := SZ10.out; have := SZ11.out; have := SZ12.out; omega) (.int .i64 d))
        replace BKg3 := Aside0.mk (blk_far BKg3.out (p := ⟨g19, 3, none⟩) (by show _ ≠ _; have := HZ4.out; have := HZ5.out; have := HWW.out; have := SZ8.out; have := SZ10.out; have := SZ11.out; have := SZ12.out; omega) (.int .i64 d))
        replace HOm := Aside0.mk (Kd.R_far HOm.out (p := ⟨g19, 3, none⟩) (Iv_ne (g := g19) (by have := HZ4.out; have := HZ5.out; have := HWW.out; have := SZ8.out; have := SZ10.out; have := SZ11.out; have := SZ12.out; omega)) (.int .i64 d))
        replace BKg17 := Aside0.mk (blk_far BKg17.out (p := ⟨g19, 3, none⟩) (by show _ ≠ _; have := HZ4.out; have := HZ5.out; have := HWW.out; have := SZ8.out; have := SZ10.out; have := SZ11.out; have := SZ12.out; omega) (.int .i64 d))
        replace HOn := Aside0.mk (Kd.R_far HOn.out (p := ⟨g19, 3, none⟩) (Iv_ne (g := g19) (by have := HZ4.out; have := HZ5.out; have := HWW.out; have := SZ8.out; have := SZ10.out; have := SZ11.out; have := SZ12.out; omega)) (.int .i64 d))
        replace BKg19 := Aside0.mk (blk_put BKg19.out 3 (.int .i64 d) rfl)
        replace HB := Aside0.mk (below_set HB.out (by have := HZ4.out; have := HZ5.out; have := HWW.out; have := SZ8.out; have := SZ10.out; have := SZ11.out; have := SZ12.out; omega : w.heap.size ≤ g19) (j := 3) (v := .int .i64 d))
        replace HT := Aside0.mk (TwoD.cell HT.out (g := g19) (j := 4) (Or.inr SZ12.out) (by have := HW0.out; have := HZ4.out; have := HZ5.out; have := HWW.out; have := SZ8.out; have := SZ10.out; have := SZ11.out; have := SZ12.out; omega) (.slice n_A slR.length n_c))
        replace BKg3 := Aside0.mk (blk_far BKg3.out (p := ⟨g19, 4, none⟩) (by show _ ≠ _; have := HZ4.out; have := HZ5.out; have := HWW.out; have := SZ8.out; have := SZ10.out; have := SZ11.out; have := SZ12.out; omega) (.slice n_A slR.length n_c))
        replace HOm := Aside0.mk (Kd.R_far HOm.out (p := ⟨g19, 4, none⟩) (Iv_ne (g := g19) (by have := HZ4.out; have := HZ5.out; have := HWW.out; have := SZ8.out; have := SZ10.out; have := SZ11.out; have := SZ12.out; omega)) (.slice n_A slR.length n_c))
        replace BKg17 := Aside0.mk (blk_far BKg17.out (p := ⟨g19, 4, none⟩) (by show _ ≠ _; have := HZ4.out; have := HZ5.out; have := HWW.out; have := SZ8.out; have := SZ10.out; have := SZ11.out; have := SZ12.out; omega) (.slice n_A slR.length n_c))
        replace HOn := Aside0.mk (Kd.R_far HOn.out (p := ⟨g19, 4, none⟩) (Iv_ne (g := g19) (by have := HZ4.out; have := HZ5.out; have := HWW.out; have := SZ8.out; have := SZ10.out; have := SZ11.out; have := SZ12.out; omega)) (.slice n_A slR.length n_c))
        replace BKg19 := Aside0.mk (blk_put BKg19.out 4 (.slice n_A slR.length n_c) rfl)
        replace HB := Aside0.mk (below_set HB.out (by have := HZ4.out; have := HZ5.out; have := HWW.out; have := SZ8.out; have := SZ10.out; have := SZ11.out; have := SZ12.out; omega : w.heap.size ≤ g19) (j := 4) (v := .slice n_A slR.length n_c))
        have SZ13 := Aside0.mk (show w12.heap.size ≤ (((((w12.setCell ⟨g19, 0, none⟩ (.int .i64 a)).setCell ⟨g19, 1, none⟩ (.int .i64 b)).setCell ⟨g19, 2, none⟩ (.int .i64 c)).setCell ⟨g19, 3, none⟩ (.int .i64 d)).setCell ⟨g19, 4, none⟩ (.slice n_A slR.length n_c)).heap.size from by simp [World.setCell])
        generalize (((((w12.setCell ⟨g19, 0, none⟩ (.int .i64 a)).setCell ⟨g19, 1, none⟩ (.int .i64 b)).setCell ⟨g19, 2, none⟩ (.int .i64 c)).setCell ⟨g19, 3, none⟩ (.int .i64 d)).setCell ⟨g19, 4, none⟩ (.slice n_A slR.length n_c)) = w13 at HB HT BKg3 HOm BKg17 HOn BKg19 SZ13 ⊢
        have hcg3_3 : w13.cell? ⟨g3, 3, none⟩ = some (.int .i64 d) := (blk_cell BKg3.out 3).trans rfl
        have hfg3_3 := blk_frozen BKg3.out 3
        have hcg17_4 : w13.cell? ⟨g17, 4, none⟩ = some (.slice m_A slR.length m_c) := (blk_cell BKg17.out 4).trans rfl
        have hfg17_4 := blk_frozen BKg17.out 4
        have hcg19_4 : w13.cell? ⟨g19, 4, none⟩ = some (.slice n_A slR.length n_c) := (blk_cell BKg19.out 4).trans rfl
        have hfg19_4 := blk_frozen BKg19.out 4
        (try clear hcg3_3 hfg3_3)
        (try clear hcg17_4 hfg17_4)
        (try clear hcg19_4 hfg19_4)
        have CX := Aside0.mk (Kd.R_reads' HOm.out).2.2
        have CY := Aside0.mk (Kd.R_reads' HOn.out).2.2
        clear HOm HOn
        have hpp := okP_iff.mp HFR.out.1
        have hEE : wrap64 (2 * d) = 2 * d := by unfold wrap64; omega
        have HDD := Aside0.mk (show 8 ≤ d ∧ d ≤ 256 by omega)
        have hz : (2 * d = 0) = False := eq_false (by omega)
        clear hpp
        have hcg17_4 : w13.cell? ⟨g17, 4, none⟩ = some (.slice m_A slR.length m_c) := (blk_cell BKg17.out 4).trans rfl
        have hcg19_4 : w13.cell? ⟨g19, 4, none⟩ = some (.slice n_A slR.length n_c) := (blk_cell BKg19.out 4).trans rfl
        have hcg3_3 : w13.cell? ⟨g3, 3, none⟩ = some (.int .i64 d) := (blk_cell BKg3.out 3).trans rfl
        go_wp2_with (fail)
        go_loopg [22] slR.length (fun kq v22 wr => ∃ k : Nat, v22 = .int .i64 (k : Int) ∧ Aside0 (k ≤ slR.length ∧ slR.length - k ≤ kq) ∧ Aside0 (wr.heap[g17]? = some (.cells #[.int .i64 a, .int .i64 b, .int .i64 c, .int .i64 d, .slice m_A slR.length m_c] 36 (0, 0))) ∧ Aside0 (wr.heap[g19]? = some (.cells #[.int .i64 a, .int .i64 b, .int .i64 c, .int .i64 d, .slice n_A slR.length n_c] 36 (0, 0))) ∧ Aside0 (Below w13.heap.size w13 wr))
        case atStart => exact ⟨0, rfl, Aside0.mk ⟨by omega, by omega⟩, Aside0.mk (by (with_reducible repeat (first | refine blk_drewN ?_ _ | refine blk_drew ?_ | refine blk_alloc ?_ _)); exact BKg17.out), Aside0.mk (by (with_reducible repeat (first | refine blk_drewN ?_ _ | refine blk_drew ?_ | refine blk_alloc ?_ _)); exact BKg19.out), Aside0.mk (by repeat (first | exact Below.refl _ _ | apply below_alloc | apply pw_below_drewN | apply below_drew1))⟩
        case round =>
          have HB0 := HB
          have HT0 := HT
          clear HB HT BKg17 BKg19 hcg17_4 hcg19_4 hcg3_3
          obtain ⟨k, rfl, AX, BKg17, BKg19, HB⟩ := hrel
          have hcg17_4 : wr.cell? ⟨g17, 4, none⟩ = some (.slice m_A slR.length m_c) := (blk_cell BKg17.out 4).trans rfl
          have hfg17_4 := blk_frozen BKg17.out 4
          have hcg19_4 : wr.cell? ⟨g19, 4, none⟩ = some (.slice n_A slR.length n_c) := (blk_cell BKg19.out 4).trans rfl
          have hfg19_4 := blk_frozen BKg19.out 4
          by_cases hlt : k < slR.length
          · obtain ⟨adx, x, ex, hfx, hxm, Bx, cx, hcx, hlex, hCx⟩ := bytes_elem CX.out k hlt
            obtain ⟨ady, y, ey, hfy, hym, By, cy, hcy, hley, hCy⟩ := bytes_elem CY.out k (by rw [HSLN.out]; exact hlt)
            have hxk : slR.getD k [] = x := elem_getD hfx
            have hyk : (wipeF [] slR q (2 * d.toNat)).getD k [] = y := elem_getD hfy
            subst ex
            subst ey
            have hx := pw_cell_below HB.out hcx
            have hy := pw_cell_below HB.out hcy
            have HCX := Aside0.mk hCx
            have HCY := Aside0.mk hCy
            have b1_ : decide ((k : Int) < (slR.length : Int)) = true := decide_eq_true (by omega)
            have b2_ : decide (k < slR.length) = true := decide_eq_true hlt
            have b3_ : (k < slR.length) = True := eq_true hlt
            have HK := Aside0.mk hlt
            clear hfx hfy hxm hym hcx hcy hlex hley hCx hCy
            have hget := wipeF_get ([] : List Int) (2 * d.toNat) slR q k hlt
            rw [hyk] at hget
            have hwq := wrap_tdiv (k := k) HDD.out (Nat.le_trans (Nat.le_of_lt hlt) HFR.out.small.1)
            have htd := wiped_iff (n := n) (k := k) (nd := (List.replicate (a + b).toNat false).length) HDD.out HAT.out
            by_cases hr : q ≤ k ∧ k < q + 2 * d.toNat
            · rw [if_pos hr] at hget
              subst hget
              have d5 : (wrap64 ((k : Int) / (2 * d)) == n) = true := beq_iff_eq.mpr (hwq.trans (htd.mpr hr))
              have d5' : (wrap64 ((k : Int) / (2 * d)) = n) = True := eq_true (hwq.trans (htd.mpr hr))
              clear hlt hxk hyk htd hr hwq
              go_wp2
              go_roundg (gk - 1)
              case measure =>
                have := AX.out
                have := HK.out
                omega
              case rel =>
                have h1 := AX.out
                have h2 := HK.out
                have h3 : slR.length ≤ 100000 := HFR.out.small.1
                exact ⟨k + 1, by rw [show wrap64 ((k : Int) + 1) = ((k + 1 : Nat) : Int) by unfold wrap64; omega], Aside0.mk ⟨by omega, by omega⟩, Aside0.mk (by (with_reducible repeat (first | refine blk_drewN ?_ _ | refine blk_drew ?_ | refine blk_alloc ?_ _)); exact BKg17.out), Aside0.mk (by (with_reducible repeat (first | refine blk_drewN ?_ _ | refine blk_drew ?_ | refine blk_alloc ?_ _)); exact BKg19.out), Aside0.mk (by repeat (first | exact HB.out | apply below_alloc | apply pw_below_drewN | apply below_drew1))⟩
            rw [if_neg hr, hxk] at hget
            obtain rfl : x = y := hget.symm
            clear hget
            have d5 : (wrap64 ((k : Int) / (2 * d)) == n) = false := beq_false_of_ne (fun h => hr (htd.mp (hwq.symm.trans h)))
            have d5' : (wrap64 ((k : Int) / (2 * d)) = n) = False := eq_false (fun h => hr (htd.mp (hwq.symm.trans h)))
            clear hlt hxk hyk htd hr hwq
            have d1_ : ((strOfNums x).toList == (strOfNums x).toList) = true := beq_self_eq_true _
            have d2_ : ((strOfNums x).toList != (strOfNums x).toList) = false := bne_self_eq_false _
            have hcv20 := Kd.C_string (P := Try.prog) (A := Bx) (c := cx) Try.underlying45 Try.underlying5 Try.underlying9 (Kd.C_below HCX.out HB.out)
            have hq20 := fun n => Kd.C_string (P := Try.prog) (A := Bx) (c := cx) Try.underlying45 Try.underlying5 Try.underlying9 (Kd.C_drewN (Kd.C_below HCX.out HB.out) n)
            have hcv22 := Kd.C_string (P := Try.prog) (A := By) (c := cy) Try.underlying45 Try.underlying5 Try.underlying9 (Kd.C_below HCY.out HB.out)
            have hq22 := fun n => Kd.C_string (P := Try.prog) (A := By) (c := cy) Try.underlying45 Try.underlying5 Try.underlying9 (Kd.C_drewN (Kd.C_below HCY.out HB.out) n)
            go_wp2
            repeat (go_quiet ((first | (rintro ⟨n_, rfl⟩; exact hq20 n_) | (rintro ⟨n_, rfl⟩; exact hq22 n_) | (intro hS_; obtain ⟨n_, rfl⟩ := hS_; exact hq20 n_) | (intro hS_; obtain ⟨n_, rfl⟩ := hS_; exact hq22 n_))); try go_wp2)
            go_roundg (gk - 1)
            case measure =>
              have := AX.out
              have := HK.out
              omega
            case rel =>
              have h1 := AX.out
              have h2 := HK.out
              have h3 : slR.length ≤ 100000 := HFR.out.small.1
              exact ⟨k + 1, by rw [show wrap64 ((k : Int) + 1) = ((k + 1 : Nat) : Int) by unfold wrap64; omega], Aside0.mk ⟨by omega, by omega⟩, Aside0.mk (by (with_reducible repeat (first | refine blk_drewN ?_ _ | refine blk_drew ?_ | refine blk_alloc ?_ _)); exact BKg17.out), Aside0.mk (by (with_reducible repeat (first | refine blk_drewN ?_ _ | refine blk_drew ?_ | refine blk_alloc ?_ _)); exact BKg19.out), Aside0.mk (by repeat (first | exact HB.out | apply below_alloc | apply pw_below_drewN | apply below_drew1))⟩
          · have b1_ : decide ((k : Int) < (slR.length : Int)) = false := decide_eq_false (by omega)
            have b2_ : decide (k < slR.length) = false := decide_eq_false hlt
            have b3_ : (k < slR.length) = False := eq_false hlt
            have n_ := Aside0.mk (HT0.out.step_ HB.out)
            have m_ := Aside0.mk (below_step HB0.out HB.out)
            clear HT0 HB0 HB hlt
            have HT := n_
            have HB := m_
            clear n_ m_
            have HW1 := Aside0.mk (show wipedOf ((List.replicate (a + b).toNat false).set n.toNat true).length ((List.replicate (a + b).toNat false).set n.toNat true) = [n] from wiped_pure HFR.out.2.2.2.1 HDD.out HAT.out)
            have tok12 : True := trivial
            go_wp2_with (first | (have _ := tok12; go_at_call 25; (with_reducible refine (WipedA HFW.out (TwoD.step_ HT.out (by repeat (first | exact Below.refl _ _ | apply below_alloc | apply pw_below_drewN | apply below_drew1)))).mono ?_); rintro e w14 ⟨v, rfl, ho, hb⟩; have hs : Below wr.heap.size wr w14 := below_step (by repeat (first | exact Below.refl _ _ | apply below_alloc | apply pw_below_drewN | apply below_drew1)) hb; have hl : wr.heap.size ≤ _ := below_size (w := wr) (by repeat (first | exact Below.refl _ _ | apply below_alloc | apply pw_below_drewN | apply below_drew1)); have SZ14 := Aside0.mk (show wr.heap.size ≤ w14.heap.size from hs.size); replace HT := Aside0.mk (TwoD.step_ HT.out hs); replace HB := Aside0.mk (below_step HB.out hs); rw [HW1.out] at ho; obtain ⟨A9, c9, e_⟩ := Kd.R_slice ho; subst e_; obtain ⟨a9, e9, hx9⟩ := Kd.at_int (Kd.R_reads' ho).2.2 0 (by omega) (by simp); subst e9; have HC9 := Aside0.mk (show w14.cell? a9 = some (.int .i64 n) from hx9); clear hx9 ho; clear hb hs; (try clear hl); have xHC9 := HC9.out; clear tok12; have tok13 : True := trivial) | (have _ := tok13; go_at_call 26; (with_reducible refine (WholeA HFW.out (TwoD.step_ HT.out (by repeat (first | exact Below.refl _ _ | apply below_alloc | apply pw_below_drewN | apply below_drew1)))).mono ?_); rintro e w15 ⟨rfl, ht, hx⟩; (try clear xHC9); have n_ := Aside0.mk (show TwoD wt w15 _ a b c d DA DB (wipeF false ((List.replicate (a + b).toNat false).set n.toNat true) 0 ((List.replicate (a + b).toNat false).set n.toNat true).length) ⟨(wipeF [] slR q (2 * d.toNat)), false, -1, wR⟩ (List.replicate (a + b).toNat false) ⟨slR, false, -1, wR⟩ from ht); clear HT HB; have HT := n_; have HB := Aside0.mk (below_step HBT.out ht.below); clear n_ ht hx HC9; clear tok13; have tok14 : True := trivial) | (have _ := tok14; go_at_call 25; (with_reducible refine (WipedA HFZ.out (TwoD.step_ HT.out (by repeat (first | exact Below.refl _ _ | apply below_alloc | apply pw_below_drewN | apply below_drew1)))).mono ?_); rintro e w16 ⟨v, rfl, ho, hb⟩; have hs : Below w15.heap.size w15 w16 := below_step (by repeat (first | exact Below.refl _ _ | apply below_alloc | apply pw_below_drewN | apply below_drew1)) hb; have hl : w15.heap.size ≤ _ := below_size (w := w15) (by repeat (first | exact Below.refl _ _ | apply below_alloc | apply pw_below_drewN | apply below_drew1)); have SZ16 := Aside0.mk (show w15.heap.size ≤ w16.heap.size from hs.size); replace HT := Aside0.mk (TwoD.step_ HT.out hs); replace HB := Aside0.mk (below_step HB.out hs); rw [wipedOf_clear2] at ho; obtain ⟨A8, c8, e_⟩ := Kd.R_slice ho; subst e_; clear ho; clear hb hs; (try clear hl); clear tok14))
            go_ret
            exact ⟨rfl, HB.out⟩
      subst hf
      have hFr : Kd.F k51 wr (fun q => q < wt.heap.size) A l.length l := Kd.F_below (Kd.C_F heap51 HLt.out) HT.out.below
      obtain ⟨ad, A3, c3, x, eA, hdr, hxl, hle, q0, q1, q2, q3, hFx⟩ := puts_elem hFr k hk
      subst eA
      have HDR := Aside0.mk hdr
      have ALE := Aside0.mk hle
      have HD := Aside0.mk hd
      have HWN := Aside0.mk hw
      have HMK := Aside0.mk hm
      have b2 : decide ((k : Int) < (l.length : Int)) = true := decide_eq_true (by omega)
      have b2' : decide (k < l.length) = true := decide_eq_true hk
      have b2'' : (k < l.length) = True := eq_true hk
      have HK := Aside0.mk hk
      have Hc0 := Aside0.mk q0
      have Hc1 := Aside0.mk q1
      have Hc2 := Aside0.mk q2
      have Hc3 := Aside0.mk q3
      have HFx := Aside0.mk hFx
      have HWT := Aside0.mk (show wt.heap.size ≤ wr.heap.size from HT.out.below.size)
      clear hk hFr hdr hxl hle q0 q1 q2 q3 hFx hd hw hm
      by_cases hg : atOf (List.replicate (a + b).toNat false).length d x.f0 x.f1 x.f2 < 0 ∨ (x.f3.length : Int) ≠ sizeOf08 a b c
      · have HR1 := Aside0.mk (put1_bad (n := n1) (sl := sl1) hg)
        have HR2 := Aside0.mk (show putsL (List.replicate (a + b).toNat false).length d (sizeOf08 a b c) (l.drop k) ⟨sl1, false, -1, n1⟩ = (⟨sl1, false, -1, n1⟩, 80) by rw [HDR.out, putsL_stop (by rw [HR1.out]; show (80 : Int) ≠ 0; decide), HR1.out])
        clear hg
        have xHc0 := Hc0.out
        have xHc1 := Hc1.out
        have xHc2 := Hc2.out
        have xHc3 := Hc3.out
        have tok15 : True := trivial
        go_wp2_with (first | (have _ := tok15; (with_reducible refine gate_dst (N := 56) rfl ?_); refine lit_event ?hg (N := 56) (k := 1) ?hd (cs := #[.int .i64 x.f0, .int .i64 x.f1, .int .i64 x.f2, .slice A3 x.f3.length c3]) (t := 51) ?hr ?_; (case hd => rfl); (case hg => rfl); (case hr => first | (go_simp; done) | (go_simp; rfl)); intro g56 hg w17 hbox hb; have hs : Below wr.heap.size wr w17 := below_step (by repeat (first | exact Below.refl _ _ | apply below_alloc | apply pw_below_drewN | apply below_drew1)) hb; have SZ17 := Aside0.mk (show wr.heap.size ≤ g56 ∧ g56 < w17.heap.size from ⟨by rw [hg]; exact (below_size (by repeat (first | exact Below.refl _ _ | apply below_alloc | apply pw_below_drewN | apply below_drew1))), blk_lt hbox⟩); (try clear xHc0); (try clear xHc1); (try clear xHc2); (try clear xHc3); replace Hc0 := Aside0.mk (pw_cell_below hs Hc0.out); replace Hc1 := Aside0.mk (pw_cell_below hs Hc1.out); replace Hc2 := Aside0.mk (pw_cell_below hs Hc2.out); replace Hc3 := Aside0.mk (pw_cell_below hs Hc3.out); replace HFx := Aside0.mk (Kd.F_below HFx.out hs); replace HT := Aside0.mk (TwoD.step HT.out hs); replace HB := Aside0.mk (below_step HB.out hs); have BKg56 := Aside0.mk hbox; clear hb hbox hg hs; have xHc0 := Hc0.out; have xHc1 := Hc1.out; have xHc2 := Hc2.out; have xHc3 := Hc3.out; have hcg56_0 : w17.cell? ⟨g56, 0, none⟩ = some (.int .i64 x.f0) := (blk_cell BKg56.out 0).trans rfl; have hfg56_0 := blk_frozen BKg56.out 0; have hcg56_1 : w17.cell? ⟨g56, 1, none⟩ = some (.int .i64 x.f1) := (blk_cell BKg56.out 1).trans rfl; have hfg56_1 := blk_frozen BKg56.out 1; have hcg56_2 : w17.cell? ⟨g56, 2, none⟩ = some (.int .i64 x.f2) := (blk_cell BKg56.out 2).trans rfl; have hfg56_2 := blk_frozen BKg56.out 2; have hcg56_3 : w17.cell? ⟨g56, 3, none⟩ = some (.slice A3 x.f3.length c3) := (blk_cell BKg56.out 3).trans rfl; have hfg56_3 := blk_frozen BKg56.out 3; clear tok15; have tok16 : True := trivial) | (have _ := tok16; go_at_call 18; (with_reducible refine (WriteA_one x g56 A3 c3 _ HR1.out HF1.out HCB0.out (by (with_reducible repeat (first | refine blk_drewN ?_ _ | refine blk_drew ?_ | refine blk_alloc ?_ _)); exact BKg56.out) ALE.out (Kd.F_below HFx.out (by repeat (first | exact Below.refl _ _ | apply below_alloc | apply pw_below_drewN | apply below_drew1))) (Or.inr SZ17.out) (TwoD.step_ HT.out (by repeat (first | exact Below.refl _ _ | apply below_alloc | apply pw_below_drewN | apply below_drew1))).symm).mono ?_); rintro e w18 ⟨rfl, ht, _⟩; (try clear xHc0); (try clear xHc1); (try clear xHc2); (try clear xHc3); (try clear hcg56_0 hfg56_0); (try clear hcg56_1 hfg56_1); (try clear hcg56_2 hfg56_2); (try clear hcg56_3 hfg56_3); have n_ := Aside0.mk (show TwoD wt w18 (fun _ => False) a b c d DB DA (List.replicate (a + b).toNat false) ⟨sl1, false, -1, n1⟩ (List.replicate (a + b).toNat false) ⟨slR, false, -1, wR⟩ from ht.sub (fun _ hf => Or.inl hf)); clear HT; have HT := n_; have hbw := ht.below; have m_ := Aside0.mk (Kd.F_below (Kd.C_F heap51 HLt.out) hbw); clear HB n_ BKg56 HFx Hc0 Hc1 Hc2 Hc3; have HB := Aside0.mk (below_step HBT.out hbw); have HFl := m_; clear m_ hbw ht; clear tok16))
        go_roundg (gk - 1)
        case measure =>
          have := AX.out
          have := HK.out
          omega
        case rel =>
          have h1 := AX.out
          have h2 := HK.out
          have h3 := HLN.out
          refine ⟨k + 1, 80, made, ⟨sl1, false, -1, n1⟩, rfl, rfl, by rw [show wrap64 ((k : Int) + 1) = ((k + 1 : Nat) : Int) by unfold wrap64; omega], Aside0.mk ⟨by omega, by omega⟩, Aside0.mk HT.out.symm, Aside0.mk ⟨HF1.out, rfl, rfl, .inr ⟨by decide, by rw [← HR2.out]; exact HD.out.symm, by have h4 : n1 = k := HWN.out; have h5 := HMK.out; show made = n1; omega⟩⟩⟩
      have hg1 : ¬ atOf (List.replicate (a + b).toNat false).length d x.f0 x.f1 x.f2 < 0 := fun h => hg (.inl h)
      have hg2 : (x.f3.length : Int) = sizeOf08 a b c := Decidable.of_not_not (fun h => hg (.inr h))
      have hlt4 := atOf_lt (nd := (List.replicate (a + b).toNat false).length) (d := d) (x := x.f0) (y := x.f1) (z := x.f2) (by have := HF1.out.small; omega) (by omega)
      obtain ⟨i, hi⟩ : ∃ i : Nat, atOf (List.replicate (a + b).toNat false).length d x.f0 x.f1 x.f2 = (i : Int) := ⟨(atOf (List.replicate (a + b).toNat false).length d x.f0 x.f1 x.f2).toNat, by omega⟩
      have hil : i < sl1.length := by
        have h1 : (sl1.length : Int) = (a + b) * d * 2 := HF1.out.2.2.1
        have h2 := HF1.out.2.2.2.1
        have h3 := hlt4.2.2.2.2.2.2.2
        rw [h2, hi] at h3
        omega
      have HR1 := Aside0.mk (put1_good (n := n1) (sl := sl1) hi hg2)
      have HIA := Aside0.mk hi
      have HIL := Aside0.mk (show i < (sl1.set i x.f3).length by rw [List.length_set]; exact hil)
      have HGS := Aside0.mk (show (sl1.set i x.f3).getD i [] = x.f3 by rw [List.getD_eq_getElem?_getD, List.getElem?_set_self hil]; rfl)
      have HFN := Aside0.mk (fit_set (i := i) HF1.out hg2 (by have h1 : n1 = k := HWN.out; have h2 := HK.out; have h3 := HLN.out; omega))
      have d1 : ((strOfNums x.f3).toList == (strOfNums x.f3).toList) = true := beq_self_eq_true _
      have d2 : ((strOfNums x.f3).toList != (strOfNums x.f3).toList) = false := bne_self_eq_false _
      clear hg hg1 hg2 hlt4 hi hil
      have xHc0 := Hc0.out
      have xHc1 := Hc1.out
      have xHc2 := Hc2.out
      have xHc3 := Hc3.out
      have tok17 : True := trivial
      go_wp2_with (first | (have _ := tok17; (with_reducible refine gate_dst (N := 56) rfl ?_); refine lit_event ?hg (N := 56) (k := 1) ?hd (cs := #[.int .i64 x.f0, .int .i64 x.f1, .int .i64 x.f2, .slice A3 x.f3.length c3]) (t := 51) ?hr ?_; (case hd => rfl); (case hg => rfl); (case hr => first | (go_simp; done) | (go_simp; rfl)); intro g56 hg w19 hbox hb; have hs : Below wr.heap.size wr w19 := below_step (by repeat (first | exact Below.refl _ _ | apply below_alloc | apply pw_below_drewN | apply below_drew1)) hb; have SZ19 := Aside0.mk (show wr.heap.size ≤ g56 ∧ g56 < w19.heap.size from ⟨by rw [hg]; exact (below_size (by repeat (first | exact Below.refl _ _ | apply below_alloc | apply pw_below_drewN | apply below_drew1))), blk_lt hbox⟩); (try clear xHc0); (try clear xHc1); (try clear xHc2); (try clear xHc3); replace Hc0 := Aside0.mk (pw_cell_below hs Hc0.out); replace Hc1 := Aside0.mk (pw_cell_below hs Hc1.out); replace Hc2 := Aside0.mk (pw_cell_below hs Hc2.out); replace Hc3 := Aside0.mk (pw_cell_below hs Hc3.out); replace HFx := Aside0.mk (Kd.F_below HFx.out hs); replace HT := Aside0.mk (TwoD.step HT.out hs); replace HB := Aside0.mk (below_step HB.out hs); have BKg56 := Aside0.mk hbox; clear hb hbox hg hs; have xHc0 := Hc0.out; have xHc1 := Hc1.out; have xHc2 := Hc2.out; have xHc3 := Hc3.out; have hcg56_0 : w19.cell? ⟨g56, 0, none⟩ = some (.int .i64 x.f0) := (blk_cell BKg56.out 0).trans rfl; have hfg56_0 := blk_frozen BKg56.out 0; have hcg56_1 : w19.cell? ⟨g56, 1, none⟩ = some (.int .i64 x.f1) := (blk_cell BKg56.out 1).trans rfl; have hfg56_1 := blk_frozen BKg56.out 1; have hcg56_2 : w19.cell? ⟨g56, 2, none⟩ = some (.int .i64 x.f2) := (blk_cell BKg56.out 2).trans rfl; have hfg56_2 := blk_frozen BKg56.out 2; have hcg56_3 : w19.cell? ⟨g56, 3, none⟩ = some (.slice A3 x.f3.length c3) := (blk_cell BKg56.out 3).trans rfl; have hfg56_3 := blk_frozen BKg56.out 3; clear tok17; have tok18 : True := trivial) | (have _ := tok18; go_at_call 18; (with_reducible refine (WriteA_one x g56 A3 c3 _ HR1.out HF1.out HCB0.out (by (with_reducible repeat (first | refine blk_drewN ?_ _ | refine blk_drew ?_ | refine blk_alloc ?_ _)); exact BKg56.out) ALE.out (Kd.F_below HFx.out (by repeat (first | exact Below.refl _ _ | apply below_alloc | apply pw_below_drewN | apply below_drew1))) (Or.inr SZ19.out) (TwoD.step_ HT.out (by repeat (first | exact Below.refl _ _ | apply below_alloc | apply pw_below_drewN | apply below_drew1))).symm).mono ?_); rintro e w20 ⟨rfl, ht, _⟩; (try clear xHc0); (try clear xHc1); (try clear xHc2); (try clear xHc3); (try clear hcg56_0 hfg56_0); (try clear hcg56_1 hfg56_1); (try clear hcg56_2 hfg56_2); (try clear hcg56_3 hfg56_3); have n_ := Aside0.mk (show TwoD wt w20 (fun _ => False) a b c d DB DA (List.replicate (a + b).toNat false) ⟨sl1.set i x.f3, false, -1, n1 + 1⟩ (List.replicate (a + b).toNat false) ⟨slR, false, -1, wR⟩ from ht.sub (fun _ hf => Or.inl hf)); clear HT; have HT := n_; have hbw := ht.below; have m_ := Aside0.mk (Kd.F_below (Kd.C_F heap51 HLt.out) hbw); clear HB n_ BKg56 HFx Hc0 Hc1 Hc2 Hc3; have HB := Aside0.mk (below_step HBT.out hbw); have HFl := m_; clear m_ hbw ht; clear tok18))
      obtain ⟨ad_, A3_, c3_, x_, eA_, hdr_, hxl_, hle_, q0, q1, q2, q3, hFx_⟩ := puts_elem HFl.out k HK.out
      obtain rfl : ad = ad_ := by injection eA_
      obtain rfl : x = x_ := by
        have h := HDR.out
        rw [hdr_] at h
        injection h with h1 _
        exact h1.symm
      clear eA_ hdr_ hxl_
      have Hc0 := Aside0.mk q0
      have Hc1 := Aside0.mk q1
      have Hc2 := Aside0.mk q2
      have Hc3 := Aside0.mk q3
      have HFx := Aside0.mk hFx_
      clear q0 q1 q2 q3 hFx_
      have xHc0 := Hc0.out
      have xHc1 := Hc1.out
      have xHc2 := Hc2.out
      have xHc3 := Hc3.out
      go_wp2_with (fail)
      (try clear xHc0)
      (try clear xHc1)
      (try clear xHc2)
      (try clear xHc3)
      have hs : Below w20.heap.size w20 (World.drew w20) := below_drew1 (Below.refl _ _)
      have SZ21 := Aside0.mk (show w20.heap.size ≤ (World.drew w20).heap.size from hs.size)
      replace HT := Aside0.mk (TwoD.step_ HT.out hs)
      replace Hc0 := Aside0.mk (pw_cell_below hs Hc0.out)
      replace Hc1 := Aside0.mk (pw_cell_below hs Hc1.out)
      replace Hc2 := Aside0.mk (pw_cell_below hs Hc2.out)
      replace Hc3 := Aside0.mk (pw_cell_below hs Hc3.out)
      replace HFx := Aside0.mk (Kd.F_below HFx.out hs)
      have n_ := Aside0.mk (below_step HB.out hs)
      clear HB
      have HB := n_
      clear n_ hs
      refine start_ (n := 22) (S := fun w' => w'.cell? (ad.add (k * 4)) = some (.int .i64 x.f0) ∧ w'.cell? ⟨(ad.add (k * 4)).block, (ad.add (k * 4)).off + 1, none⟩ = some (.int .i64 x.f1) ∧ w'.cell? ⟨(ad.add (k * 4)).block, (ad.add (k * 4)).off + 2, none⟩ = some (.int .i64 x.f2) ∧ w'.cell? ⟨(ad.add (k * 4)).block, (ad.add (k * 4)).off + 3, none⟩ = some (.slice A3_ x.f3.length c3_)) (ds := []) #[false, false, false, false, false, false, false, false, false, false, false, false, false, false, false, false, false, false, false, false, false, false] (by kernel_rfl) rfl rfl ⟨Hc0.out, Hc1.out, Hc2.out, Hc3.out⟩ (fun hHeld => ?_)
      generalize World.drew w20 = w21 at HB HT Hc0 Hc1 Hc2 Hc3 HFx SZ21 hHeld ⊢
      refine pure_ (i := 0) (N := some 63) (v := ?_) (a' := ?_) #[true, false, false, false, false, false, false, false, false, false, false, false, false, false, false, false, false, false, false, false, false, false] rfl rfl (by kernel_rfl) (fun _ _ _ h => h) (Or.inl ⟨by rfl, ?_⟩) ?_ ?_
      rotate_left
      · intro w'
        go_simp
        with_reducible rfl
      rotate_left
      · simp only [Act.put, List.setIfInBounds_toArray, List.set_cons_zero, List.set_cons_succ, i64_w, i32_w]
        rfl
      refine pure_ (i := 1) (N := some 64) (v := ?_) (a' := ?_) #[true, true, false, false, false, false, false, false, false, false, false, false, false, false, false, false, false, false, false, false, false, false] rfl rfl (by kernel_rfl) (fun _ _ _ h => h) (Or.inl ⟨by rfl, ?_⟩) ?_ ?_
      rotate_left
      · intro w'
        go_simp
        with_reducible rfl
      rotate_left
      · simp only [Act.put, List.setIfInBounds_toArray, List.set_cons_zero, List.set_cons_succ, i64_w, i32_w]
        rfl
      refine pure_ (i := 2) (N := some 65) (v := ?_) (a' := ?_) #[true, true, true, false, false, false, false, false, false, false, false, false, false, false, false, false, false, false, false, false, false, false] rfl rfl (by kernel_rfl) (fun _ _ _ h => h) (Or.inl ⟨by rfl, ?_⟩) ?_ ?_
      rotate_left
      · intro w'
        go_simp
        with_reducible rfl
      rotate_left
      · simp only [Act.put, List.setIfInBounds_toArray, List.set_cons_zero, List.set_cons_succ, i64_w, i32_w]
        rfl
      refine pure_ (i := 3) (N := some 66) (v := ?_) (a' := ?_) #[true, true, true, true, false, false, false, false, false, false, false, false, false, false, false, false, false, false, false, false, false, false] rfl rfl (by kernel_rfl) (fun _ _ _ h => h) (Or.inl ⟨by rfl, ?_⟩) ?_ ?_
      rotate_left
      · intro w'
        go_simp
        with_reducible rfl
      rotate_left
      · simp only [Act.put, List.setIfInBounds_toArray, List.set_cons_zero, List.set_cons_succ, i64_w, i32_w]
        rfl
      refine pure_ (i := 4) (N := some 67) (v := ?_) (a' := ?_) #[true, true, true, true, true, false, false, false, false, false, false, false, false, false, false, false, false, false, false, false, false, false] rfl rfl (by kernel_rfl) (fun _ _ _ h => h) (Or.inl ⟨by rfl, ?_⟩) ?_ ?_
      rotate_left
      · intro w'
        go_simp
        with_reducible rfl
      rotate_left
      · simp only [Act.put, List.setIfInBounds_toArray, List.set_cons_zero, List.set_cons_succ, i64_w, i32_w]
        rfl
      refine pure_ (i := 6) (N := some 69) (v := ?_) (a' := ?_) #[true, true, true, true, true, false, true, false, false, false, false, false, false, false, false, false, false, false, false, false, false, false] rfl rfl (by kernel_rfl) (fun _ _ _ h => h) (Or.inl ⟨by rfl, ?_⟩) ?_ ?_
      rotate_left
      · intro w'
        go_simp
        with_reducible rfl
      rotate_left
      · simp only [Act.put, List.setIfInBounds_toArray, List.set_cons_zero, List.set_cons_succ, i64_w, i32_w]
        rfl
      refine pure_ (i := 7) (N := some 70) (v := ?_) (a' := ?_) #[true, true, true, true, true, false, true, true, false, false, false, false, false, false, false, false, false, false, false, false, false, false] rfl rfl (by kernel_rfl) (fun _ _ _ h => h) (Or.inl ⟨by rfl, ?_⟩) ?_ ?_
      rotate_left
      · intro w'
        go_simp
        with_reducible rfl
      rotate_left
      · simp only [Act.put, List.setIfInBounds_toArray, List.set_cons_zero, List.set_cons_succ, i64_w, i32_w]
        rfl
      refine pure_ (i := 8) (N := some 71) (v := ?_) (a' := ?_) #[true, true, true, true, true, false, true, true, true, false, false, false, false, false, false, false, false, false, false, false, false, false] rfl rfl (by kernel_rfl) (fun _ _ _ h => h) (Or.inl ⟨by rfl, ?_⟩) ?_ ?_
      rotate_left
      · intro w'
        go_simp
        with_reducible rfl
      rotate_left
      · simp only [Act.put, List.setIfInBounds_toArray, List.set_cons_zero, List.set_cons_succ, i64_w, i32_w]
        rfl
      refine pure_ (i := 9) (N := some 72) (v := ?_) (a' := ?_) #[true, true, true, true, true, false, true, true, true, true, false, false, false, false, false, false, false, false, false, false, false, false] rfl rfl (by kernel_rfl) (fun _ _ _ h => h) (Or.inl ⟨by rfl, ?_⟩) ?_ ?_
      rotate_left
      · intro w'
        go_simp
        with_reducible rfl
      rotate_left
      · simp only [Act.put, List.setIfInBounds_toArray, List.set_cons_zero, List.set_cons_succ, i64_w, i32_w]
        rfl
      refine pure_ (i := 11) (N := some 74) (v := ?_) (a' := ?_) #[true, true, true, true, true, false, true, true, true, true, false, true, false, false, false, false, false, false, false, false, false, false] rfl rfl (by kernel_rfl) (fun _ _ _ h => h) (Or.inl ⟨by rfl, ?_⟩) ?_ ?_
      rotate_left
      · intro w'
        go_simp
        with_reducible rfl
      rotate_left
      · simp only [Act.put, List.setIfInBounds_toArray, List.set_cons_zero, List.set_cons_succ, i64_w, i32_w]
        rfl
      refine pure_ (i := 12) (N := some 75) (v := ?_) (a' := ?_) #[true, true, true, true, true, false, true, true, true, true, false, true, true, false, false, false, false, false, false, false, false, false] rfl rfl (by kernel_rfl) (fun _ _ _ h => h) (Or.inl ⟨by rfl, ?_⟩) ?_ ?_
      rotate_left
      · intro w'
        go_simp
        with_reducible rfl
      rotate_left
      · simp only [Act.put, List.setIfInBounds_toArray, List.set_cons_zero, List.set_cons_succ, i64_w, i32_w]
        rfl
      refine pure_ (i := 13) (N := some 76) (v := ?_) (a' := ?_) #[true, true, true, true, true, false, true, true, true, true, false, true, true, true, false, false, false, false, false, false, false, false] rfl rfl (by kernel_rfl) (fun _ _ _ h => h) (Or.inl ⟨by rfl, ?_⟩) ?_ ?_
      rotate_left
      · intro w'
        go_simp
        with_reducible rfl
      rotate_left
      · simp only [Act.put, List.setIfInBounds_toArray, List.set_cons_zero, List.set_cons_succ, i64_w, i32_w]
        rfl
      refine pure_ (i := 14) (N := some 77) (v := ?_) (a' := ?_) #[true, true, true, true, true, false, true, true, true, true, false, true, true, true, true, false, false, false, false, false, false, false] rfl rfl (by kernel_rfl) (fun _ _ _ h => h) (Or.inl ⟨by rfl, ?_⟩) ?_ ?_
      rotate_left
      · intro w'
        go_simp
        with_reducible rfl
      rotate_left
      · simp only [Act.put, List.setIfInBounds_toArray, List.set_cons_zero, List.set_cons_succ, i64_w, i32_w]
        rfl
      refine take_ (i := 5) (N := some 68) (v := ?_) (a' := ?_) #[true, true, true, true, true, true, true, true, true, true, false, true, true, true, true, false, false, false, false, false, false, false] rfl rfl (by kernel_rfl) (fun _ _ _ h => h) (Or.inl ⟨by rfl, ?_⟩) hHeld ?_ ?_
      rotate_left
      · rintro w' ⟨s0, s1, s2, s3⟩
        go_simp
        with_reducible rfl
      rotate_left
      · simp only [Act.put, List.setIfInBounds_toArray, List.set_cons_zero, List.set_cons_succ, i64_w, i32_w]
        rfl
      refine take_ (i := 10) (N := some 73) (v := ?_) (a' := ?_) #[true, true, true, true, true, true, true, true, true, true, true, true, true, true, true, false, false, false, false, false, false, false] rfl rfl (by kernel_rfl) (fun _ _ _ h => h) (Or.inl ⟨by rfl, ?_⟩) hHeld ?_ ?_
      rotate_left
      · rintro w' ⟨s0, s1, s2, s3⟩
        go_simp
        with_reducible rfl
      rotate_left
      · simp only [Act.put, List.setIfInBounds_toArray, List.set_cons_zero, List.set_cons_succ, i64_w, i32_w]
        rfl
      refine take_ (i := 15) (N := some 78) (v := ?_) (a' := ?_) #[true, true, true, true, true, true, true, true, true, true, true, true, true, true, true, true, false, false, false, false, false, false] rfl rfl (by kernel_rfl) (fun _ _ _ h => h) (Or.inl ⟨by rfl, ?_⟩) hHeld ?_ ?_
      rotate_left
      · rintro w' ⟨s0, s1, s2, s3⟩
        go_simp
        with_reducible rfl
      rotate_left
      · simp only [Act.put, List.setIfInBounds_toArray, List.set_cons_zero, List.set_cons_succ, i64_w, i32_w]
        rfl
      refine one_ (i := 16) (N := some 79) #[true, true, true, true, true, true, true, true, true, true, true, true, true, true, true, true, true, false, false, false, false, false] rfl rfl (by kernel_rfl) (by decide) (fun K hK => ?_)
      refine goes_ Try.func21 (by kernel_rfl) rfl #[.pointer (some ⟨DB, 0, none⟩), .int .i64 x.f0, .int .i64 x.f1, .int .i64 x.f2] (by rfl) rfl rfl (by simp only [List.map_toArray, List.map_cons, List.map_nil]; rfl) ?_
      with_reducible refine (ReadA x.f0 x.f1 x.f2 i rfl HFN.out HIA.out HIL.out (TwoD.step_ HT.out (by repeat (first | exact Below.refl _ _ | apply below_alloc | apply pw_below_drewN | apply below_drew1)))).mono ?_
      rintro e w22 ⟨⟨v5, rfl, hv⟩, hb⟩
      refine ⟨_, rfl, ?_⟩
      have hs : Below w21.heap.size w21 w22 := below_step (by repeat (first | exact Below.refl _ _ | apply below_alloc | apply pw_below_drewN | apply below_drew1)) hb
      have hl : w21.heap.size ≤ _ := below_size (w := w21) (by repeat (first | exact Below.refl _ _ | apply below_alloc | apply pw_below_drewN | apply below_drew1))
      have SZ22 := Aside0.mk (show w21.heap.size ≤ w22.heap.size from hs.size)
      replace HT := Aside0.mk (TwoD.step_ HT.out hs)
      replace Hc0 := Aside0.mk (pw_cell_below hs Hc0.out)
      replace Hc1 := Aside0.mk (pw_cell_below hs Hc1.out)
      replace Hc2 := Aside0.mk (pw_cell_below hs Hc2.out)
      replace Hc3 := Aside0.mk (pw_cell_below hs Hc3.out)
      replace HFx := Aside0.mk (Kd.F_below HFx.out hs)
      rw [HGS.out] at hv
      obtain ⟨A5, c5, e5_⟩ := Kd.R_slice hv
      subst e5_
      have HV := Aside0.mk (Kd.R_reads' hv).2.2
      clear hv
      have n_ := Aside0.mk (below_step HB.out hs)
      clear HB
      have HB := n_
      clear n_ hs hb
      (try clear hl)
      refine hK.out _ _ ⟨Hc0.out, Hc1.out, Hc2.out, Hc3.out⟩ (fun hHeld => ?_)
      clear hK K
      refine norm_ (a' := ?_) ?_ ?_
      rotate_left
      · show Act.put _ (some 79) _ = _
        simp only [Act.put, List.setIfInBounds_toArray, List.set_cons_zero, List.set_cons_succ, i64_w, i32_w]
        rfl
      refine pure_ (i := 17) (N := some 62) (v := ?_) (a' := ?_) #[true, true, true, true, true, true, true, true, true, true, true, true, true, true, true, true, true, true, false, false, false, false] rfl rfl (by kernel_rfl) (fun _ _ _ h => h) (Or.inl ⟨by rfl, ?_⟩) ?_ ?_
      rotate_left
      · intro w'
        go_simp
        with_reducible rfl
      rotate_left
      · simp only [Act.put, List.setIfInBounds_toArray, List.set_cons_zero, List.set_cons_succ, i64_w, i32_w]
        rfl
      refine pure_ (i := 18) (N := some 80) (v := ?_) (a' := ?_) #[true, true, true, true, true, true, true, true, true, true, true, true, true, true, true, true, true, true, true, false, false, false] rfl rfl (by kernel_rfl) (fun _ _ _ h => h) (Or.inl ⟨by rfl, ?_⟩) ?_ ?_
      rotate_left
      · intro w'
        go_simp
        with_reducible rfl
      rotate_left
      · simp only [Act.put, List.setIfInBounds_toArray, List.set_cons_zero, List.set_cons_succ, i64_w, i32_w]
        rfl
      refine pure_ (i := 19) (N := some 81) (v := ?_) (a' := ?_) #[true, true, true, true, true, true, true, true, true, true, true, true, true, true, true, true, true, true, true, true, false, false] rfl rfl (by kernel_rfl) (fun _ _ _ h => h) (Or.inl ⟨by rfl, ?_⟩) ?_ ?_
      rotate_left
      · intro w'
        go_simp
        with_reducible rfl
      rotate_left
      · simp only [Act.put, List.setIfInBounds_toArray, List.set_cons_zero, List.set_cons_succ, i64_w, i32_w]
        rfl
      refine pure_ (i := 20) (N := some 15) (v := ?_) (a' := ?_) #[true, true, true, true, true, true, true, true, true, true, true, true, true, true, true, true, true, true, true, true, true, false] rfl rfl (by kernel_rfl) (fun _ _ _ h => h) (Or.inl ⟨by rfl, ?_⟩) ?_ ?_
      rotate_left
      · intro w'
        go_simp
        with_reducible rfl
      rotate_left
      · simp only [Act.put, List.setIfInBounds_toArray, List.set_cons_zero, List.set_cons_succ, i64_w, i32_w]
        rfl
      refine pure_ (i := 21) (N := some 16) (v := ?_) (a' := ?_) #[true, true, true, true, true, true, true, true, true, true, true, true, true, true, true, true, true, true, true, true, true, true] rfl rfl (by kernel_rfl) (fun _ _ _ h => h) (Or.inl ⟨by rfl, ?_⟩) ?_ ?_
      rotate_left
      · intro w'
        go_simp
        with_reducible rfl
      rotate_left
      · simp only [Act.put, List.setIfInBounds_toArray, List.set_cons_zero, List.set_cons_succ, i64_w, i32_w]
        rfl
      refine done_ (by kernel_rfl) ?_
      have xHc0 := Hc0.out
      have xHc1 := Hc1.out
      have xHc2 := Hc2.out
      have xHc3 := Hc3.out
      have hcv20 := Kd.C_string (P := Try.prog) (A := A5) (c := c5) Try.underlying45 Try.underlying5 Try.underlying9 HV.out
      have hq20 := fun n => Kd.C_string (P := Try.prog) (A := A5) (c := c5) Try.underlying45 Try.underlying5 Try.underlying9 (Kd.C_drewN HV.out n)
      have hcv22 := Kd.C_string (P := Try.prog) (A := A3_) (c := c3_) Try.underlying45 Try.underlying5 Try.underlying9 (Kd.F_now HFx.out)
      have hq22 := fun n => Kd.C_string (P := Try.prog) (A := A3_) (c := c3_) Try.underlying45 Try.underlying5 Try.underlying9 (Kd.C_drewN (Kd.F_now HFx.out) n)
      go_wp2
      repeat (go_quiet ((first | (rintro ⟨n_, rfl⟩; exact hq20 n_) | (rintro ⟨n_, rfl⟩; exact hq22 n_) | (intro hS_; obtain ⟨n_, rfl⟩ := hS_; exact hq20 n_) | (intro hS_; obtain ⟨n_, rfl⟩ := hS_; exact hq22 n_))); try go_wp2)
      go_roundg (gk - 1)
      case measure =>
        have := AX.out
        have := HK.out
        omega
      case rel =>
        have h1 := AX.out
        have h2 := HK.out
        have h3 := HLN.out
        refine ⟨k + 1, 0, ((k + 1 : Nat) : Int), ⟨sl1.set i x.f3, false, -1, n1 + 1⟩, rfl, by rw [HMK.out, show wrap64 ((k : Int) + 1) = ((k + 1 : Nat) : Int) by unfold wrap64; omega], by rw [show wrap64 ((k : Int) + 1) = ((k + 1 : Nat) : Int) by unfold wrap64; omega], Aside0.mk ⟨by omega, by omega⟩, Aside0.mk (TwoD.step_ HT.out (by repeat (first | exact Below.refl _ _ | apply below_alloc | apply pw_below_drewN | apply below_drew1))).symm, Aside0.mk ⟨HFN.out, rfl, rfl, .inl ⟨rfl, by rw [← HD.out, HDR.out, putsL_go (by rw [HR1.out]), HR1.out], rfl, by have h4 : n1 = k := HWN.out; show n1 + 1 = ((k + 1 : Nat) : Int); omega⟩⟩⟩
    · have hx : (⟨slR, false, -1, wR⟩, eR) = ((⟨sl1, false, -1, n1⟩ : DS), f) ∧ made = n1 := by
        rcases hp4 with ⟨hf, hd, hm, hw⟩ | ⟨hf, he, hm⟩
        · rw [List.drop_eq_nil_of_le (by omega)] at hd
          have h1 : n1 = k := hw
          exact ⟨by rw [← hd, hf]; rfl, by omega⟩
        · exact ⟨he, hm⟩
      obtain ⟨he, hm⟩ := hx
      have b2 : decide ((k : Int) < (l.length : Int)) = false := decide_eq_false (by omega)
      have b2' : decide (k < l.length) = false := decide_eq_false hk
      have b2'' : (k < l.length) = False := eq_false hk
      clear hk hp4
      injection he with he1 he2
      injection he1 with he3 _ _ he4
      subst he3
      subst he4
      subst he2
      have hm_ := hm.symm
      subst hm_
      have BKg3 := Aside0.mk (blk_below BG3.out HT.out.below)
      have HZ3 := Aside0.mk (show g3 < wr.heap.size from blk_lt BKg3.out)
      have HW0 := Aside0.mk (show wt.heap.size ≤ wr.heap.size from HT.out.below.size)
      have HWW := Aside0.mk (show w.heap.size ≤ wt.heap.size from HBT.out.size)
      clear HF1
      have hcg3_3 : wr.cell? ⟨g3, 3, none⟩ = some (.int .i64 d) := (blk_cell BKg3.out 3).trans rfl
      have hfg3_3 := blk_frozen BKg3.out 3
      have tok19 : True := trivial
      go_wp2_with (first | (have _ := tok19; go_at_call 17; (with_reducible refine (alike_yes wt (fun _ => False) a b c d DA DB (List.replicate (a + b).toNat false) (List.replicate (a + b).toNat false) slR false (-1) (-1) wR _ HFR.out HFR.out (TwoD.step_ HT.out (by repeat (first | exact Below.refl _ _ | apply below_alloc | apply pw_below_drewN | apply below_drew1)))).mono ?_); rintro e w23 ⟨rfl, hb⟩; (try clear hcg3_3 hfg3_3); have hs : Below wr.heap.size wr w23 := below_step (by repeat (first | exact Below.refl _ _ | apply below_alloc | apply pw_below_drewN | apply below_drew1)) hb; have hl : wr.heap.size ≤ _ := below_size (w := wr) (by repeat (first | exact Below.refl _ _ | apply below_alloc | apply pw_below_drewN | apply below_drew1)); have SZ23 := Aside0.mk (show wr.heap.size ≤ w23.heap.size from hs.size); replace HT := Aside0.mk (TwoD.step_ HT.out hs); replace BKg3 := Aside0.mk (blk_below BKg3.out hs); replace HB := Aside0.mk (below_step HB.out hs); clear hb hs; (try clear hl); have hcg3_3 : w23.cell? ⟨g3, 3, none⟩ = some (.int .i64 d) := (blk_cell BKg3.out 3).trans rfl; have hfg3_3 := blk_frozen BKg3.out 3; clear tok19; have tok20 : True := trivial) | (have _ := tok20; go_at_call 20; (with_reducible refine (WritesA (TwoD.step_ HT.out (by repeat (first | exact Below.refl _ _ | apply below_alloc | apply pw_below_drewN | apply below_drew1)))).mono ?_); rintro e w24 ⟨rfl, hb⟩; (try clear hcg3_3 hfg3_3); have hs : Below w23.heap.size w23 w24 := below_step (by repeat (first | exact Below.refl _ _ | apply below_alloc | apply pw_below_drewN | apply below_drew1)) hb; have hl : w23.heap.size ≤ _ := below_size (w := w23) (by repeat (first | exact Below.refl _ _ | apply below_alloc | apply pw_below_drewN | apply below_drew1)); have SZ24 := Aside0.mk (show w23.heap.size ≤ w24.heap.size from hs.size); replace HT := Aside0.mk (TwoD.step_ HT.out hs); replace BKg3 := Aside0.mk (blk_below BKg3.out hs); replace HB := Aside0.mk (below_step HB.out hs); clear hb hs; (try clear hl); have hcg3_3 : w24.cell? ⟨g3, 3, none⟩ = some (.int .i64 d) := (blk_cell BKg3.out 3).trans rfl; have hfg3_3 := blk_frozen BKg3.out 3; clear tok20; have tok21 : True := trivial) | (have _ := tok21; go_at_call 23; (with_reducible refine (ImageA HFR.out (TwoD.step_ HT.out (by repeat (first | exact Below.refl _ _ | apply below_alloc | apply pw_below_drewN | apply below_drew1)))).mono ?_); rintro e w25 ⟨v, rfl, ho, hb⟩; (try clear hcg3_3 hfg3_3); have hs : Below w24.heap.size w24 w25 := below_step (by repeat (first | exact Below.refl _ _ | apply below_alloc | apply pw_below_drewN | apply below_drew1)) hb; have hl : w24.heap.size ≤ _ := below_size (w := w24) (by repeat (first | exact Below.refl _ _ | apply below_alloc | apply pw_below_drewN | apply below_drew1)); have SZ25 := Aside0.mk (show w24.heap.size ≤ w25.heap.size from hs.size); replace HT := Aside0.mk (TwoD.step HT.out hs); replace BKg3 := Aside0.mk (blk_below BKg3.out hs); have HOm := Aside0.mk (R_iv ho (below_size (by repeat (first | exact HB.out | apply below_alloc | apply pw_below_drewN | apply below_drew1))) hl); replace HB := Aside0.mk (below_step HB.out hs); clear ho; obtain ⟨m_A, m_c, e_⟩ := Kd.R_slice HOm.out; subst e_; clear hb hs; (try clear hl); have hcg3_3 : w25.cell? ⟨g3, 3, none⟩ = some (.int .i64 d) := (blk_cell BKg3.out 3).trans rfl; have hfg3_3 := blk_frozen BKg3.out 3; clear tok21; have tok22 : True := trivial) | (have _ := tok22; (with_reducible refine gate_dst (N := 17) rfl ?_); refine box_event ?hg (N := 17) ?hd (cs := #[.int .i64 0, .int .i64 0, .int .i64 0, .int .i64 0, .slice none 0 0]) (t := 36) ?hr ?_; (case hd => rfl); (case hg => rfl); (case hr => first | (go_simp; done) | (go_simp; rfl)); intro g17 hg w26 hbox hb; have hs : Below w25.heap.size w25 w26 := below_step (by repeat (first | exact Below.refl _ _ | apply below_alloc | apply pw_below_drewN | apply below_drew1)) hb; have SZ26 := Aside0.mk (show w25.heap.size ≤ g17 ∧ g17 < w26.heap.size from ⟨by rw [hg]; exact (below_size (by repeat (first | exact Below.refl _ _ | apply below_alloc | apply pw_below_drewN | apply below_drew1))), blk_lt hbox⟩); (try clear hcg3_3 hfg3_3); replace HT := Aside0.mk (TwoD.step HT.out hs); replace BKg3 := Aside0.mk (blk_below BKg3.out hs); replace HOm := Aside0.mk (Kd.R_below HOm.out hs); replace HB := Aside0.mk (below_step HB.out hs); have hneg3_g17 : g3 ≠ g17 := (by have := SZ26.out; have := HW0.out; have := HZ3.out; have := HWW.out; have := SZ23.out; have := SZ24.out; have := SZ25.out; omega); have hneg17_g3 : g17 ≠ g3 := hneg3_g17.symm; have BKg17 := Aside0.mk hbox; clear hb hbox hg hs; have hcg3_3 : w26.cell? ⟨g3, 3, none⟩ = some (.int .i64 d) := (blk_cell BKg3.out 3).trans rfl; have hfg3_3 := blk_frozen BKg3.out 3; have hcg17_0 : w26.cell? ⟨g17, 0, none⟩ = some (.int .i64 0) := (blk_cell BKg17.out 0).trans rfl; have hfg17_0 := blk_frozen BKg17.out 0; have hcg17_1 : w26.cell? ⟨g17, 1, none⟩ = some (.int .i64 0) := (blk_cell BKg17.out 1).trans rfl; have hfg17_1 := blk_frozen BKg17.out 1; have hcg17_2 : w26.cell? ⟨g17, 2, none⟩ = some (.int .i64 0) := (blk_cell BKg17.out 2).trans rfl; have hfg17_2 := blk_frozen BKg17.out 2; have hcg17_3 : w26.cell? ⟨g17, 3, none⟩ = some (.int .i64 0) := (blk_cell BKg17.out 3).trans rfl; have hfg17_3 := blk_frozen BKg17.out 3; have hcg17_4 : w26.cell? ⟨g17, 4, none⟩ = some (.slice none 0 0) := (blk_cell BKg17.out 4).trans rfl; have hfg17_4 := blk_frozen BKg17.out 4; clear tok22))
      (try clear hcg3_3 hfg3_3)
      (try clear hcg17_0 hfg17_0)
      (try clear hcg17_1 hfg17_1)
      (try clear hcg17_2 hfg17_2)
      (try clear hcg17_3 hfg17_3)
      (try clear hcg17_4 hfg17_4)
      replace HT := Aside0.mk (TwoD.cell HT.out (g := g17) (j := 0) (Or.inr SZ26.out) (by have := HW0.out; have := HW0.out; have := HZ3.out; have := HWW.out; have := SZ23.out; have := SZ24.out; have := SZ25.out; have := SZ26.out; omega) (.int .i64 a))
      replace BKg3 := Aside0.mk (blk_far BKg3.out (p := ⟨g17, 0, none⟩) (by show _ ≠ _; have := HW0.out; have := HZ3.out; have := HWW.out; have := SZ23.out; have := SZ24.out; have := SZ25.out; have := SZ26.out; omega) (.int .i64 a))
      replace HOm := Aside0.mk (Kd.R_far HOm.out (p := ⟨g17, 0, none⟩) (Iv_ne (g := g17) (by have := HW0.out; have := HZ3.out; have := HWW.out; have := SZ23.out; have := SZ24.out; have := SZ25.out; have := SZ26.out; omega)) (.int .i64 a))
      replace BKg17 := Aside0.mk (blk_put BKg17.out 0 (.int .i64 a) rfl)
      replace HB := Aside0.mk (below_set HB.out (by have := HW0.out; have := HZ3.out; have := HWW.out; have := SZ23.out; have := SZ24.out; have := SZ25.out; have := SZ26.out; omega : w.heap.size ≤ g17) (j := 0) (v := .int .i64 a))
      replace HT := Aside0.mk (TwoD.cell HT.out (g := g17) (j := 1) (Or.inr SZ26.out) (by have := HW0.out; have := HW0.out; have := HZ3.out; have := HWW.out; have := SZ23.out; have := SZ24.out; have := SZ25.out; have := SZ26.out; omega) (.int .i64 b))
      replace BKg3 := Aside0.mk (blk_far BKg3.out (p := ⟨g17, 1, none⟩) (by show _ ≠ _; have := HW0.out; have := HZ3.out; have := HWW.out; have := SZ23.out; have := SZ24.out; have := SZ25.out; have := SZ26.out; omega) (.int .i64 b))
      replace HOm := Aside0.mk (Kd.R_far HOm.out (p := ⟨g17, 1, none⟩) (Iv_ne (g := g17) (by have := HW0.out; have := HZ3.out; have := HWW.out; have := SZ23.out; have := SZ24.out; have := SZ25.out; have := SZ26.out; omega)) (.int .i64 b))
      replace BKg17 := Aside0.mk (blk_put BKg17.out 1 (.int .i64 b) rfl)
      replace HB := Aside0.mk (below_set HB.out (by have := HW0.out; have := HZ3.out; have := HWW.out; have := SZ23.out; have := SZ24.out; have := SZ25.out; have := SZ26.out; omega : w.heap.size ≤ g17) (j := 1) (v := .int .i64 b))
      replace HT := Aside0.mk (TwoD.cell HT.out (g := g17) (j := 2) (Or.inr SZ26.out) (by have := HW0.out; have := HW0.out; have := HZ3.out; have := HWW.out; have := SZ23.out; have := SZ24.out; have := SZ25.out; have := SZ26.out; omega) (.int .i64 c))
      replace BKg3 := Aside0.mk (blk_far BKg3.out (p := ⟨g17, 2, none⟩) (by show _ ≠ _; have := HW0.out; have := HZ3.out; have := HWW.out; have := SZ23.out; have := SZ24.out; have := SZ25.out; have := SZ26.out; omega) (.int .i64 c))
      replace HOm := Aside0.mk (Kd.R_far HOm.out (p := ⟨g17, 2, none⟩) (Iv_ne (g := g17) (by have := HW0.out; have := HZ3.out; have := HWW.out; have := SZ23.out; have := SZ24.out; have := SZ25.out; have := SZ26.out; omega)) (.int .i64 c))
      replace BKg17 := Aside0.mk (blk_put BKg17.out 2 (.int .i64 c) rfl)
      replace HB := Aside0.mk (below_set HB.out (by have := HW0.out; have := HZ3.out; have := HWW.out; have := SZ23.out; have := SZ24.out; have := SZ25.out; have := SZ26.out; omega : w.heap.size ≤ g17) (j := 2) (v := .int .i64 c))
      replace HT := Aside0.mk (TwoD.cell HT.out (g := g17) (j := 3) (Or.inr SZ26.out) (by have := HW0.out; have := HW0.out; have := HZ3.out; have := HWW.out; have := SZ23.out; have := SZ24.out; have := SZ25.out; have := SZ26.out; omega) (.int .i64 d))
      replace BKg3 := Aside0.mk (blk_far BKg3.out (p := ⟨g17, 3, none⟩) (by show _ ≠ _; have := HW0.out; have := HZ3.out; have := HWW.out; have := SZ23.out; have := SZ24.out; have := SZ25.out; have := SZ26.out; omega) (.int .i64 d))
      replace HOm := Aside0.mk (Kd.R_far HOm.out (p := ⟨g17, 3, none⟩) (Iv_ne (g := g17) (by have := HW0.out; have := HZ3.out; have := HWW.out; have := SZ23.out; have := SZ24.out; have := SZ25.out; have := SZ26.out; omega)) (.int .i64 d))
      replace BKg17 := Aside0.mk (blk_put BKg17.out 3 (.int .i64 d) rfl)
      replace HB := Aside0.mk (below_set HB.out (by have := HW0.out; have := HZ3.out; have := HWW.out; have := SZ23.out; have := SZ24.out; have := SZ25.out; have := SZ26.out; omega : w.heap.size ≤ g17) (j := 3) (v := .int .i64 d))
      replace HT := Aside0.mk (TwoD.cell HT.out (g := g17) (j := 4) (Or.inr SZ26.out) (by have := HW0.out; have := HW0.out; have := HZ3.out; have := HWW.out; have := SZ23.out; have := SZ24.out; have := SZ25.out; have := SZ26.out; omega) (.slice m_A slR.length m_c))
      replace BKg3 := Aside0.mk (blk_far BKg3.out (p := ⟨g17, 4, none⟩) (by show _ ≠ _; have := HW0.out; have := HZ3.out; have := HWW.out; have := SZ23.out; have := SZ24.out; have := SZ25.out; have := SZ26.out; omega) (.slice m_A slR.length m_c))
      replace HOm := Aside0.mk (Kd.R_far HOm.out (p := ⟨g17, 4, none⟩) (Iv_ne (g := g17) (by have := HW0.out; have := HZ3.out; have := HWW.out; have := SZ23.out; have := SZ24.out; have := SZ25.out; have := SZ26.out; omega)) (.slice m_A slR.length m_c))
      replace BKg17 := Aside0.mk (blk_put BKg17.out 4 (.slice m_A slR.length m_c) rfl)
      replace HB := Aside0.mk (below_set HB.out (by have := HW0.out; have := HZ3.out; have := HWW.out; have := SZ23.out; have := SZ24.out; have := SZ25.out; have := SZ26.out; omega : w.heap.size ≤ g17) (j := 4) (v := .slice m_A slR.length m_c))
      have SZ27 := Aside0.mk (show w26.heap.size ≤ (((((w26.setCell ⟨g17, 0, none⟩ (.int .i64 a)).setCell ⟨g17, 1, none⟩ (.int .i64 b)).setCell ⟨g17, 2, none⟩ (.int .i64 c)).setCell ⟨g17, 3, none⟩ (.int .i64 d)).setCell ⟨g17, 4, none⟩ (.slice m_A slR.length m_c)).heap.size from by simp [World.setCell])
      generalize (((((w26.setCell ⟨g17, 0, none⟩ (.int .i64 a)).setCell ⟨g17, 1, none⟩ (.int .i64 b)).setCell ⟨g17, 2, none⟩ (.int .i64 c)).setCell ⟨g17, 3, none⟩ (.int .i64 d)).setCell ⟨g17, 4, none⟩ (.slice m_A slR.length m_c)) = w27 at HB HT BKg3 HOm BKg17 SZ27 ⊢
      have hcg3_3 : w27.cell? ⟨g3, 3, none⟩ = some (.int .i64 d) := (blk_cell BKg3.out 3).trans rfl
      have hfg3_3 := blk_frozen BKg3.out 3
      have hcg17_4 : w27.cell? ⟨g17, 4, none⟩ = some (.slice m_A slR.length m_c) := (blk_cell BKg17.out 4).trans rfl
      have hfg17_4 := blk_frozen BKg17.out 4
      have HFW := Aside0.mk (fit_wipe HFR.out q (2 * d.toNat) n.toNat)
      have HFZ := Aside0.mk (fit_clear HFW.out ((List.replicate (a + b).toNat false).set n.toNat true).length)
      have HSLN := Aside0.mk (show (wipeF [] slR q (2 * d.toNat)).length = slR.length from wipeF_len _ _ _ _)
      have tok23 : True := trivial
      go_wp2_with (first | (have _ := tok23; go_at_call 24; (with_reducible refine (WipeA n q HFR.out HAT.out (TwoD.step_ HT.out (by repeat (first | exact Below.refl _ _ | apply below_alloc | apply pw_below_drewN | apply below_drew1)))).mono ?_); rintro e w28 ⟨rfl, ht, hx⟩; (try clear hcg3_3 hfg3_3); (try clear hcg17_4 hfg17_4); replace BKg17 := Aside0.mk (blk_X (by (with_reducible repeat (first | refine blk_drewN ?_ _ | refine blk_drew ?_ | refine blk_alloc ?_ _)); exact BKg17.out) (Or.inr SZ26.out) hx); replace HOm := Aside0.mk (Kd.R_step (Kd.R_below HOm.out (by repeat (first | exact Below.refl _ _ | apply below_alloc | apply pw_below_drewN | apply below_drew1))) (fun k ho _ => hx k (Or.inl (Or.inr ho)))); have SZ28 := Aside0.mk (show g17 < w28.heap.size from blk_lt BKg17.out); have n_ := Aside0.mk (show TwoD wt w28 _ a b c d DA DB ((List.replicate (a + b).toNat false).set n.toNat true) ⟨(wipeF [] slR q (2 * d.toNat)), false, -1, wR⟩ (List.replicate (a + b).toNat false) ⟨slR, false, -1, wR⟩ from ht); clear HT HB BKg3; have HT := n_; have HB := Aside0.mk (below_step HBT.out ht.below); have BKg3 := Aside0.mk (blk_below BG3.out ht.below); have HZ4 := Aside0.mk (show wt.heap.size ≤ w28.heap.size from ht.below.size); have HZ5 := Aside0.mk (show g3 < w28.heap.size from blk_lt BKg3.out); clear n_ ht hx; have hcg3_3 : w28.cell? ⟨g3, 3, none⟩ = some (.int .i64 d) := (blk_cell BKg3.out 3).trans rfl; have hfg3_3 := blk_frozen BKg3.out 3; have hcg17_4 : w28.cell? ⟨g17, 4, none⟩ = some (.slice m_A slR.length m_c) := (blk_cell BKg17.out 4).trans rfl; have hfg17_4 := blk_frozen BKg17.out 4; clear tok23))
      have tok24 : True := trivial
      go_wp2_with (first | (have _ := tok24; go_at_call 23; (with_reducible refine (ImageA HFW.out (TwoD.step_ HT.out (by repeat (first | exact Below.refl _ _ | apply below_alloc | apply pw_below_drewN | apply below_drew1)))).mono ?_); rintro e w29 ⟨v, rfl, ho, hb⟩; (try clear hcg3_3 hfg3_3); (try clear hcg17_4 hfg17_4); have hs : Below w28.heap.size w28 w29 := below_step (by repeat (first | exact Below.refl _ _ | apply below_alloc | apply pw_below_drewN | apply below_drew1)) hb; have hl : w28.heap.size ≤ _ := below_size (w := w28) (by repeat (first | exact Below.refl _ _ | apply below_alloc | apply pw_below_drewN | apply below_drew1)); have SZ29 := Aside0.mk (show w28.heap.size ≤ w29.heap.size from hs.size); replace HT := Aside0.mk (TwoD.step HT.out hs); replace BKg3 := Aside0.mk (blk_below BKg3.out hs); replace HOm := Aside0.mk (Kd.R_below HOm.out hs); replace BKg17 := Aside0.mk (blk_below BKg17.out hs); have HOn := Aside0.mk (R_iv ho (below_size (by repeat (first | exact HB.out | apply below_alloc | apply pw_below_drewN | apply below_drew1))) hl); replace HB := Aside0.mk (below_step HB.out hs); clear ho; obtain ⟨n_A, n_c, e_⟩ := Kd.R_slice HOn.out; rw [HSLN.out] at e_; subst e_; clear hb hs; (try clear hl); have hcg3_3 : w29.cell? ⟨g3, 3, none⟩ = some (.int .i64 d) := (blk_cell BKg3.out 3).trans rfl; have hfg3_3 := blk_frozen BKg3.out 3; have hcg17_4 : w29.cell? ⟨g17, 4, none⟩ = some (.slice m_A slR.length m_c) := (blk_cell BKg17.out 4).trans rfl; have hfg17_4 := blk_frozen BKg17.out 4; clear tok24; have tok25 : True := trivial) | (have _ := tok25; (with_reducible refine gate_dst (N := 19) rfl ?_); refine box_event ?hg (N := 19) ?hd (cs := #[.int .i64 0, .int .i64 0, .int .i64 0, .int .i64 0, .slice none 0 0]) (t := 36) ?hr ?_; (case hd => rfl); (case hg => rfl); (case hr => first | (go_simp; done) | (go_simp; rfl)); intro g19 hg w30 hbox hb; have hs : Below w29.heap.size w29 w30 := below_step (by repeat (first | exact Below.refl _ _ | apply below_alloc | apply pw_below_drewN | apply below_drew1)) hb; have SZ30 := Aside0.mk (show w29.heap.size ≤ g19 ∧ g19 < w30.heap.size from ⟨by rw [hg]; exact (below_size (by repeat (first | exact Below.refl _ _ | apply below_alloc | apply pw_below_drewN | apply below_drew1))), blk_lt hbox⟩); (try clear hcg3_3 hfg3_3); (try clear hcg17_4 hfg17_4); replace HT := Aside0.mk (TwoD.step HT.out hs); replace BKg3 := Aside0.mk (blk_below BKg3.out hs); replace HOm := Aside0.mk (Kd.R_below HOm.out hs); replace BKg17 := Aside0.mk (blk_below BKg17.out hs); replace HOn := Aside0.mk (Kd.R_below HOn.out hs); replace HB := Aside0.mk (below_step HB.out hs); have hneg3_g19 : g3 ≠ g19 := (by have := SZ30.out; have := HZ4.out; have := HZ5.out; have := HWW.out; have := SZ26.out; have := SZ28.out; have := SZ29.out; omega); have hneg19_g3 : g19 ≠ g3 := hneg3_g19.symm; have hneg17_g19 : g17 ≠ g19 := (by have := SZ30.out; have := HZ4.out; have := HZ5.out; have := HWW.out; have := SZ26.out; have := SZ28.out; have := SZ29.out; omega); have hneg19_g17 : g19 ≠ g17 := hneg17_g19.symm; have BKg19 := Aside0.mk hbox; clear hb hbox hg hs; have hcg3_3 : w30.cell? ⟨g3, 3, none⟩ = some (.int .i64 d) := (blk_cell BKg3.out 3).trans rfl; have hfg3_3 := blk_frozen BKg3.out 3; have hcg17_4 : w30.cell? ⟨g17, 4, none⟩ = some (.slice m_A slR.length m_c) := (blk_cell BKg17.out 4).trans rfl; have hfg17_4 := blk_frozen BKg17.out 4; have hcg19_0 : w30.cell? ⟨g19, 0, none⟩ = some (.int .i64 0) := (blk_cell BKg19.out 0).trans rfl; have hfg19_0 := blk_frozen BKg19.out 0; have hcg19_1 : w30.cell? ⟨g19, 1, none⟩ = some (.int .i64 0) := (blk_cell BKg19.out 1).trans rfl; have hfg19_1 := blk_frozen BKg19.out 1; have hcg19_2 : w30.cell? ⟨g19, 2, none⟩ = some (.int .i64 0) := (blk_cell BKg19.out 2).trans rfl; have hfg19_2 := blk_frozen BKg19.out 2; have hcg19_3 : w30.cell? ⟨g19, 3, none⟩ = some (.int .i64 0) := (blk_cell BKg19.out 3).trans rfl; have hfg19_3 := blk_frozen BKg19.out 3; have hcg19_4 : w30.cell? ⟨g19, 4, none⟩ = some (.slice none 0 0) := (blk_cell BKg19.out 4).trans rfl; have hfg19_4 := blk_frozen BKg19.out 4; clear tok25))
      (try clear hcg3_3 hfg3_3)
      (try clear hcg17_4 hfg17_4)
      (try clear hcg19_0 hfg19_0)
      (try clear hcg19_1 hfg19_1)
      (try clear hcg19_2 hfg19_2)
      (try clear hcg19_3 hfg19_3)
      (try clear hcg19_4 hfg19_4)
      replace HT := Aside0.mk (TwoD.cell HT.out (g := g19) (j := 0) (Or.inr SZ30.out) (by have := HW0.out; have := HZ4.out; have := HZ5.out; have := HWW.out; have := SZ26.out; have := SZ28.out; have := SZ29.out; have := SZ30.out; omega) (.int .i64 a))
      replace BKg3 := Aside0.mk (blk_far BKg3.out (p := ⟨g19, 0, none⟩) (by show _ ≠ _; have := HZ4.out; have := HZ5.out; have := HWW.out; have := SZ26.out; have := SZ28.out; have := SZ29.out; have := SZ30.out; omega) (.int .i64 a))
      replace HOm := Aside0.mk (Kd.R_far HOm.out (p := ⟨g19, 0, none⟩) (Iv_ne (g := g19) (by have := HZ4.out; have := HZ5.out; have := HWW.out; have := SZ26.out; have := SZ28.out; have := SZ29.out; have := SZ30.out; omega)) (.int .i64 a))
      replace BKg17 := Aside0.mk (blk_far BKg17.out (p := ⟨g19, 0, none⟩) (by show _ ≠ _; have := HZ4.out; have := HZ5.out; have := HWW.out; have := SZ26.out; have := SZ28.out; have := SZ29.out; have := SZ30.out; omega) (.int .i64 a))
      replace HOn := Aside0.mk (Kd.R_far HOn.out (p := ⟨g19, 0, none⟩) (Iv_ne (g := g19) (by have := HZ4.out; have := HZ5.out; have := HWW.out; have := SZ26.out; have := SZ28.out; have := SZ29.out; have := SZ30.out; omega)) (.int .i64 a))
      replace BKg19 := Aside0.mk (blk_put BKg19.out 0 (.int .i64 a) rfl)
      replace HB := Aside0.mk (below_set HB.out (by have := HZ4.out; have := HZ5.out; have := HWW.out; have := SZ26.out; have := SZ28.out; have := SZ29.out; have := SZ30.out; omega : w.heap.size ≤ g19) (j := 0) (v := .int .i64 a))
      replace HT := Aside0.mk (TwoD.cell HT.out (g := g19) (j := 1) (Or.inr SZ30.out) (by have := HW0.out; have := HZ4.out; have := HZ5.out; have := HWW.out; have := SZ26.out; have := SZ28.out; have := SZ29.out; have := SZ30.out; omega) (.int .i64 b))
      replace BKg3 := Aside0.mk (blk_far BKg3.out (p := ⟨g19, 1, none⟩) (by show _ ≠ _; have := HZ4.out; have := HZ5.out; have := HWW.out; have := SZ26.out; have := SZ28.out; have := SZ29.out; have := SZ30.out; omega) (.int .i64 b))
      replace HOm := Aside0.mk (Kd.R_far HOm.out (p := ⟨g19, 1, none⟩) (Iv_ne (g := g19) (by have := HZ4.out; have := HZ5.out; have := HWW.out; have := SZ26.out; have := SZ28.out; have := SZ29.out; have := SZ30.out; omega)) (.int .i64 b))
      replace BKg17 := Aside0.mk (blk_far BKg17.out (p := ⟨g19, 1, none⟩) (by show _ ≠ _; have := HZ4.out; have := HZ5.out; have := HWW.out; have := SZ26.out; have := SZ28.out; have := SZ29.out; have := SZ30.out; omega) (.int .i64 b))
      replace HOn := Aside0.mk (Kd.R_far HOn.out (p := ⟨g19, 1, none⟩) (Iv_ne (g := g19) (by have := HZ4.out; have := HZ5.out; have := HWW.out; have := SZ26.out; have := SZ28.out; have := SZ29.out; have := SZ30.out; omega)) (.int .i64 b))
      replace BKg19 := Aside0.mk (blk_put BKg19.out 1 (.int .i64 b) rfl)
      replace HB := Aside0.mk (below_set HB.out (by have := HZ4.out; have := HZ5.out; have := HWW.out; have := SZ26.out; have := SZ28.out; have := SZ29.out; have := SZ30.out; omega : w.heap.size ≤ g19) (j := 1) (v := .int .i64 b))
      replace HT := Aside0.mk (TwoD.cell HT.out (g := g19) (j := 2) (Or.inr SZ30.out) (by have := HW0.out; have := HZ4.out; have := HZ5.out; have := HWW.out; have := SZ26.out; have := SZ28.out; have := SZ29.out; have := SZ30.out; omega) (.int .i64 c))
      replace BKg3 := Aside0.mk (blk_far BKg3.out (p := ⟨g19, 2, none⟩) (by show _ ≠ _; have := HZ4.out; have := HZ5.out; have := HWW.out; have := SZ26.out; have := SZ28.out; have := SZ29.out; have := SZ30.out; omega) (.int .i64 c))
      replace HOm := Aside0.mk (Kd.R_far HOm.out (p := ⟨g19, 2, none⟩) (Iv_ne (g := g19) (by have := HZ4.out; have := HZ5.out; have := HWW.out; have := SZ26.out; have := SZ28.out; have := SZ29.out; have := SZ30.out; omega)) (.int .i64 c))
      replace BKg17 := Aside0.mk (blk_far BKg17.out (p := ⟨g19, 2, none⟩) (by show _ ≠ _; have := HZ4.out; have := HZ5.out; have := HWW.out; have := SZ26.out; have := SZ28.out; have := SZ29.out; have := SZ30.out; omega) (.int .i64 c))
      replace HOn := Aside0.mk (Kd.R_far HOn.out (p := ⟨g19, 2, none⟩) (Iv_ne (g := g19) (by have := HZ4.out; have := HZ5.out; have := HWW.out; have := SZ26.out; have := SZ28.out; have := SZ29.out; have := SZ30.out; omega)) (.int .i64 c))
      replace BKg19 := Aside0.mk (blk_put BKg19.out 2 (.int .i64 c) rfl)
      replace HB := Aside0.mk (below_set HB.out (by have := HZ4.out; have := HZ5.out; have := HWW.out; have := SZ26.out; have := SZ28.out; have := SZ29.out; have := SZ30.out; omega : w.heap.size ≤ g19) (j := 2) (v := .int .i64 c))
      replace HT := Aside0.mk (TwoD.cell HT.out (g := g19) (j := 3) (Or.inr SZ30.out) (by have := HW0.out; have := HZ4.out; have := HZ5.out; have := HWW.out; have := SZ26.out; have := SZ28.out; have := SZ29.out; have := SZ30.out; omega) (.int .i64 d))
      replace BKg3 := Aside0.mk (blk_far BKg3.out (p := ⟨g19, 3, none⟩) (by show _ ≠ _; have := HZ4.out; have := HZ5.out; have := HWW.out; have := SZ26.out; have := SZ28.out; have := SZ29.out; have := SZ30.out; omega) (.int .i64 d))
      replace HOm := Aside0.mk (Kd.R_far HOm.out (p := ⟨g19, 3, none⟩) (Iv_ne (g := g19) (by have := HZ4.out; have := HZ5.out; have := HWW.out; have := SZ26.out; have := SZ28.out; have := SZ29.out; have := SZ30.out; omega)) (.int .i64 d))
      replace BKg17 := Aside0.mk (blk_far BKg17.out (p := ⟨g19, 3, none⟩) (by show _ ≠ _; have := HZ4.out; have := HZ5.out; have := HWW.out; have := SZ26.out; have := SZ28.out; have := SZ29.out; have := SZ30.out; omega) (.int .i64 d))
      replace HOn := Aside0.mk (Kd.R_far HOn.out (p := ⟨g19, 3, none⟩) (Iv_ne (g := g19) (by have := HZ4.out; have := HZ5.out; have := HWW.out; have := SZ26.out; have := SZ28.out; have := SZ29.out; have := SZ30.out; omega)) (.int .i64 d))
      replace BKg19 := Aside0.mk (blk_put BKg19.out 3 (.int .i64 d) rfl)
      replace HB := Aside0.mk (below_set HB.out (by have := HZ4.out; have := HZ5.out; have := HWW.out; have := SZ26.out; have := SZ28.out; have := SZ29.out; have := SZ30.out; omega : w.heap.size ≤ g19) (j := 3) (v := .int .i64 d))
      replace HT := Aside0.mk (TwoD.cell HT.out (g := g19) (j := 4) (Or.inr SZ30.out) (by have := HW0.out; have := HZ4.out; have := HZ5.out; have := HWW.out; have := SZ26.out; have := SZ28.out; have := SZ29.out; have := SZ30.out; omega) (.slice n_A slR.length n_c))
      replace BKg3 := Aside0.mk (blk_far BKg3.out (p := ⟨g19, 4, none⟩) (by show _ ≠ _; have := HZ4.out; have := HZ5.out; have := HWW.out; have := SZ26.out; have := SZ28.out; have := SZ29.out; have := SZ30.out; omega) (.slice n_A slR.length n_c))
      replace HOm := Aside0.mk (Kd.R_far HOm.out (p := ⟨g19, 4, none⟩) (Iv_ne (g := g19) (by have := HZ4.out; have := HZ5.out; have := HWW.out; have := SZ26.out; have := SZ28.out; have := SZ29.out; have := SZ30.out; omega)) (.slice n_A slR.length n_c))
      replace BKg17 := Aside0.mk (blk_far BKg17.out (p := ⟨g19, 4, none⟩) (by show _ ≠ _; have := HZ4.out; have := HZ5.out; have := HWW.out; have := SZ26.out; have := SZ28.out; have := SZ29.out; have := SZ30.out; omega) (.slice n_A slR.length n_c))
      replace HOn := Aside0.mk (Kd.R_far HOn.out (p := ⟨g19, 4, none⟩) (Iv_ne (g := g19) (by have := HZ4.out; have := HZ5.out; have := HWW.out; have := SZ26.out; have := SZ28.out; have := SZ29.out; have := SZ30.out; omega)) (.slice n_A slR.length n_c))
      replace BKg19 := Aside0.mk (blk_put BKg19.out 4 (.slice n_A slR.length n_c) rfl)
      replace HB := Aside0.mk (below_set HB.out (by have := HZ4.out; have := HZ5.out; have := HWW.out; have := SZ26.out; have := SZ28.out; have := SZ29.out; have := SZ30.out; omega : w.heap.size ≤ g19) (j := 4) (v := .slice n_A slR.length n_c))
      have SZ31 := Aside0.mk (show w30.heap.size ≤ (((((w30.setCell ⟨g19, 0, none⟩ (.int .i64 a)).setCell ⟨g19, 1, none⟩ (.int .i64 b)).setCell ⟨g19, 2, none⟩ (.int .i64 c)).setCell ⟨g19, 3, none⟩ (.int .i64 d)).setCell ⟨g19, 4, none⟩ (.slice n_A slR.length n_c)).heap.size from by simp [World.setCell])
      generalize (((((w30.setCell ⟨g19, 0, none⟩ (.int .i64 a)).setCell ⟨g19, 1, none⟩ (.int .i64 b)).setCell ⟨g19, 2, none⟩ (.int .i64 c)).setCell ⟨g19, 3, none⟩ (.int .i64 d)).setCell ⟨g19, 4, none⟩ (.slice n_A slR.length n_c)) = w31 at HB HT BKg3 HOm BKg17 HOn BKg19 SZ31 ⊢
      have hcg3_3 : w31.cell? ⟨g3, 3, none⟩ = some (.int .i64 d) := (blk_cell BKg3.out 3).trans rfl
      have hfg3_3 := blk_frozen BKg3.out 3
      have hcg17_4 : w31.cell? ⟨g17, 4, none⟩ = some (.slice m_A slR.length m_c) := (blk_cell BKg17.out 4).trans rfl
      have hfg17_4 := blk_frozen BKg17.out 4
      have hcg19_4 : w31.cell? ⟨g19, 4, none⟩ = some (.slice n_A slR.length n_c) := (blk_cell BKg19.out 4).trans rfl
      have hfg19_4 := blk_frozen BKg19.out 4
      (try clear hcg3_3 hfg3_3)
      (try clear hcg17_4 hfg17_4)
      (try clear hcg19_4 hfg19_4)
      have CX := Aside0.mk (Kd.R_reads' HOm.out).2.2
      have CY := Aside0.mk (Kd.R_reads' HOn.out).2.2
      clear HOm HOn
      have hpp := okP_iff.mp HFR.out.1
      have hEE : wrap64 (2 * d) = 2 * d := by unfold wrap64; omega
      have HDD := Aside0.mk (show 8 ≤ d ∧ d ≤ 256 by omega)
      have hz : (2 * d = 0) = False := eq_false (by omega)
      clear hpp
      have hcg17_4 : w31.cell? ⟨g17, 4, none⟩ = some (.slice m_A slR.length m_c) := (blk_cell BKg17.out 4).trans rfl
      have hcg19_4 : w31.cell? ⟨g19, 4, none⟩ = some (.slice n_A slR.length n_c) := (blk_cell BKg19.out 4).trans rfl
      have hcg3_3 : w31.cell? ⟨g3, 3, none⟩ = some (.int .i64 d) := (blk_cell BKg3.out 3).trans rfl
      go_wp2_with (fail)
      go_loopg [22] slR.length (fun kq v22 wr => ∃ k : Nat, v22 = .int .i64 (k : Int) ∧ Aside0 (k ≤ slR.length ∧ slR.length - k ≤ kq) ∧ Aside0 (wr.heap[g17]? = some (.cells #[.int .i64 a, .int .i64 b, .int .i64 c, .int .i64 d, .slice m_A slR.length m_c] 36 (0, 0))) ∧ Aside0 (wr.heap[g19]? = some (.cells #[.int .i64 a, .int .i64 b, .int .i64 c, .int .i64 d, .slice n_A slR.length n_c] 36 (0, 0))) ∧ Aside0 (Below w31.heap.size w31 wr))
      case atStart => exact ⟨0, rfl, Aside0.mk ⟨by omega, by omega⟩, Aside0.mk (by (with_reducible repeat (first | refine blk_drewN ?_ _ | refine blk_drew ?_ | refine blk_alloc ?_ _)); exact BKg17.out), Aside0.mk (by (with_reducible repeat (first | refine blk_drewN ?_ _ | refine blk_drew ?_ | refine blk_alloc ?_ _)); exact BKg19.out), Aside0.mk (by repeat (first | exact Below.refl _ _ | apply below_alloc | apply pw_below_drewN | apply below_drew1))⟩
      case round =>
        have HB0 := HB
        have HT0 := HT
        clear HB HT BKg17 BKg19 hcg17_4 hcg19_4 hcg3_3
        obtain ⟨k, rfl, AX, BKg17, BKg19, HB⟩ := hrel
        have hcg17_4 : wr.cell? ⟨g17, 4, none⟩ = some (.slice m_A slR.length m_c) := (blk_cell BKg17.out 4).trans rfl
        have hfg17_4 := blk_frozen BKg17.out 4
        have hcg19_4 : wr.cell? ⟨g19, 4, none⟩ = some (.slice n_A slR.length n_c) := (blk_cell BKg19.out 4).trans rfl
        have hfg19_4 := blk_frozen BKg19.out 4
        by_cases hlt : k < slR.length
        · obtain ⟨adx, x, ex, hfx, hxm, Bx, cx, hcx, hlex, hCx⟩ := bytes_elem CX.out k hlt
          obtain ⟨ady, y, ey, hfy, hym, By, cy, hcy, hley, hCy⟩ := bytes_elem CY.out k (by rw [HSLN.out]; exact hlt)
          have hxk : slR.getD k [] = x := elem_getD hfx
          have hyk : (wipeF [] slR q (2 * d.toNat)).getD k [] = y := elem_getD hfy
          subst ex
          subst ey
          have hx := pw_cell_below HB.out hcx
          have hy := pw_cell_below HB.out hcy
          have HCX := Aside0.mk hCx
          have HCY := Aside0.mk hCy
          have b1_ : decide ((k : Int) < (slR.length : Int)) = true := decide_eq_true (by omega)
          have b2_ : decide (k < slR.length) = true := decide_eq_true hlt
          have b3_ : (k < slR.length) = True := eq_true hlt
          have HK := Aside0.mk hlt
          clear hfx hfy hxm hym hcx hcy hlex hley hCx hCy
          have hget := wipeF_get ([] : List Int) (2 * d.toNat) slR q k hlt
          rw [hyk] at hget
          have hwq := wrap_tdiv (k := k) HDD.out (Nat.le_trans (Nat.le_of_lt hlt) HFR.out.small.1)
          have htd := wiped_iff (n := n) (k := k) (nd := (List.replicate (a + b).toNat false).length) HDD.out HAT.out
          by_cases hr : q ≤ k ∧ k < q + 2 * d.toNat
          · rw [if_pos hr] at hget
            subst hget
            have d5 : (wrap64 ((k : Int) / (2 * d)) == n) = true := beq_iff_eq.mpr (hwq.trans (htd.mpr hr))
            have d5' : (wrap64 ((k : Int) / (2 * d)) = n) = True := eq_true (hwq.trans (htd.mpr hr))
            clear hlt hxk hyk htd hr hwq
            go_wp2
            go_roundg (gk - 1)
            case measure =>
              have := AX.out
              have := HK.out
              omega
            case rel =>
              have h1 := AX.out
              have h2 := HK.out
              have h3 : slR.length ≤ 100000 := HFR.out.small.1
              exact ⟨k + 1, by rw [show wrap64 ((k : Int) + 1) = ((k + 1 : Nat) : Int) by unfold wrap64; omega], Aside0.mk ⟨by omega, by omega⟩, Aside0.mk (by (with_reducible repeat (first | refine blk_drewN ?_ _ | refine blk_drew ?_ | refine blk_alloc ?_ _)); exact BKg17.out), Aside0.mk (by (with_reducible repeat (first | refine blk_drewN ?_ _ | refine blk_drew ?_ | refine blk_alloc ?_ _)); exact BKg19.out), Aside0.mk (by repeat (first | exact HB.out | apply below_alloc | apply pw_below_drewN | apply below_drew1))⟩
          rw [if_neg hr, hxk] at hget
          obtain rfl : x = y := hget.symm
          clear hget
          have d5 : (wrap64 ((k : Int) / (2 * d)) == n) = false := beq_false_of_ne (fun h => hr (htd.mp (hwq.symm.trans h)))
          have d5' : (wrap64 ((k : Int) / (2 * d)) = n) = False := eq_false (fun h => hr (htd.mp (hwq.symm.trans h)))
          clear hlt hxk hyk htd hr hwq
          have d1_ : ((strOfNums x).toList == (strOfNums x).toList) = true := beq_self_eq_true _
          have d2_ : ((strOfNums x).toList != (strOfNums x).toList) = false := bne_self_eq_false _
          have hcv20 := Kd.C_string (P := Try.prog) (A := Bx) (c := cx) Try.underlying45 Try.underlying5 Try.underlying9 (Kd.C_below HCX.out HB.out)
          have hq20 := fun n => Kd.C_string (P := Try.prog) (A := Bx) (c := cx) Try.underlying45 Try.underlying5 Try.underlying9 (Kd.C_drewN (Kd.C_below HCX.out HB.out) n)
          have hcv22 := Kd.C_string (P := Try.prog) (A := By) (c := cy) Try.underlying45 Try.underlying5 Try.underlying9 (Kd.C_below HCY.out HB.out)
          have hq22 := fun n => Kd.C_string (P := Try.prog) (A := By) (c := cy) Try.underlying45 Try.underlying5 Try.underlying9 (Kd.C_drewN (Kd.C_below HCY.out HB.out) n)
          go_wp2
          repeat (go_quiet ((first | (rintro ⟨n_, rfl⟩; exact hq20 n_) | (rintro ⟨n_, rfl⟩; exact hq22 n_) | (intro hS_; obtain ⟨n_, rfl⟩ := hS_; exact hq20 n_) | (intro hS_; obtain ⟨n_, rfl⟩ := hS_; exact hq22 n_))); try go_wp2)
          go_roundg (gk - 1)
          case measure =>
            have := AX.out
            have := HK.out
            omega
          case rel =>
            have h1 := AX.out
            have h2 := HK.out
            have h3 : slR.length ≤ 100000 := HFR.out.small.1
            exact ⟨k + 1, by rw [show wrap64 ((k : Int) + 1) = ((k + 1 : Nat) : Int) by unfold wrap64; omega], Aside0.mk ⟨by omega, by omega⟩, Aside0.mk (by (with_reducible repeat (first | refine blk_drewN ?_ _ | refine blk_drew ?_ | refine blk_alloc ?_ _)); exact BKg17.out), Aside0.mk (by (with_reducible repeat (first | refine blk_drewN ?_ _ | refine blk_drew ?_ | refine blk_alloc ?_ _)); exact BKg19.out), Aside0.mk (by repeat (first | exact HB.out | apply below_alloc | apply pw_below_drewN | apply below_drew1))⟩
        · have b1_ : decide ((k : Int) < (slR.length : Int)) = false := decide_eq_false (by omega)
          have b2_ : decide (k < slR.length) = false := decide_eq_false hlt
          have b3_ : (k < slR.length) = False := eq_false hlt
          have n_ := Aside0.mk (HT0.out.step_ HB.out)
          have m_ := Aside0.mk (below_step HB0.out HB.out)
          clear HT0 HB0 HB hlt
          have HT := n_
          have HB := m_
          clear n_ m_
          have HW1 := Aside0.mk (show wipedOf ((List.replicate (a + b).toNat false).set n.toNat true).length ((List.replicate (a + b).toNat false).set n.toNat true) = [n] from wiped_pure HFR.out.2.2.2.1 HDD.out HAT.out)
          have tok26 : True := trivial
          go_wp2_with (first | (have _ := tok26; go_at_call 25; (with_reducible refine (WipedA HFW.out (TwoD.step_ HT.out (by repeat (first | exact Below.refl _ _ | apply below_alloc | apply pw_below_drewN | apply below_drew1)))).mono ?_); rintro e w32 ⟨v, rfl, ho, hb⟩; have hs : Below wr.heap.size wr w32 := below_step (by repeat (first | exact Below.refl _ _ | apply below_alloc | apply pw_below_drewN | apply below_drew1)) hb; have hl : wr.heap.size ≤ _ := below_size (w := wr) (by repeat (first | exact Below.refl _ _ | apply below_alloc | apply pw_below_drewN | apply below_drew1)); have SZ32 := Aside0.mk (show wr.heap.size ≤ w32.heap.size from hs.size); replace HT := Aside0.mk (TwoD.step_ HT.out hs); replace HB := Aside0.mk (below_step HB.out hs); rw [HW1.out] at ho; obtain ⟨A9, c9, e_⟩ := Kd.R_slice ho; subst e_; obtain ⟨a9, e9, hx9⟩ := Kd.at_int (Kd.R_reads' ho).2.2 0 (by omega) (by simp); subst e9; have HC9 := Aside0.mk (show w32.cell? a9 = some (.int .i64 n) from hx9); clear hx9 ho; clear hb hs; (try clear hl); have xHC9 := HC9.out; clear tok26; have tok27 : True := trivial) | (have _ := tok27; go_at_call 26; (with_reducible refine (WholeA HFW.out (TwoD.step_ HT.out (by repeat (first | exact Below.refl _ _ | apply below_alloc | apply pw_below_drewN | apply below_drew1)))).mono ?_); rintro e w33 ⟨rfl, ht, hx⟩; (try clear xHC9); have n_ := Aside0.mk (show TwoD wt w33 _ a b c d DA DB (wipeF false ((List.replicate (a + b).toNat false).set n.toNat true) 0 ((List.replicate (a + b).toNat false).set n.toNat true).length) ⟨(wipeF [] slR q (2 * d.toNat)), false, -1, wR⟩ (List.replicate (a + b).toNat false) ⟨slR, false, -1, wR⟩ from ht); clear HT HB; have HT := n_; have HB := Aside0.mk (below_step HBT.out ht.below); clear n_ ht hx HC9; clear tok27; have tok28 : True := trivial) | (have _ := tok28; go_at_call 25; (with_reducible refine (WipedA HFZ.out (TwoD.step_ HT.out (by repeat (first | exact Below.refl _ _ | apply below_alloc | apply pw_below_drewN | apply below_drew1)))).mono ?_); rintro e w34 ⟨v, rfl, ho, hb⟩; have hs : Below w33.heap.size w33 w34 := below_step (by repeat (first | exact Below.refl _ _ | apply below_alloc | apply pw_below_drewN | apply below_drew1)) hb; have hl : w33.heap.size ≤ _ := below_size (w := w33) (by repeat (first | exact Below.refl _ _ | apply below_alloc | apply pw_below_drewN | apply below_drew1)); have SZ34 := Aside0.mk (show w33.heap.size ≤ w34.heap.size from hs.size); replace HT := Aside0.mk (TwoD.step_ HT.out hs); replace HB := Aside0.mk (below_step HB.out hs); rw [wipedOf_clear2] at ho; obtain ⟨A8, c8, e_⟩ := Kd.R_slice ho; subst e_; clear ho; clear hb hs; (try clear hl); clear tok28))
          go_ret
          exact ⟨rfl, HB.out⟩
end Go.Proofs.Ytemmhgfjfbdggaa.P

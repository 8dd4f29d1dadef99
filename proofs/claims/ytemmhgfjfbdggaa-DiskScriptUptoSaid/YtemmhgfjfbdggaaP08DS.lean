import Derived.Test.YtemmhgfjfbdggaaM8g
namespace Go.Proofs.Ytemmhgfjfbdggaa.P
open Go.RowKit Go.Proofs.YtemmhgfjfbdggaaW.PrintWords Go.Proofs.YtemmhgfjfbdggaaW.PrintLast Go.Proofs.YtemmhgfjfbdggaaW.PrintMore
attribute [local go_sem] max2_int min2_int max_two min_two max_three min_three max_four min_four
set_option linter.unusedVariables false
set_option linter.unusedSimpArgs false
set_option maxHeartbeats 8000000 in
set_option maxRecDepth 100000 in
theorem DS_big (a b c d : Int) (Am : Option Addr) (cm : Nat) (sl : List (List Int)) (A : Option Addr) (cl : Nat) (l : List S69) (w : World) (hC : Kd.C (Kd.slice 5 (Kd.int .u8)) w Am sl.length sl) (hcm : sl.length ≤ cm) (hL : Kd.C k69 w A l.length l) (hcl : l.length ≤ cl) (hsl : ∀ x ∈ sl, IsB x ∧ x.length ≤ 1048576) (hsn : sl.length ≤ 1048576) (hst : ∀ x ∈ l, StepW x) (hg : twoslotlaw08_big.f a b c d = some true) : Calls Try.prog 7 #[.agg #[.int .i64 a, .int .i64 b, .int .i64 c, .int .i64 d, .slice Am sl.length cm], .slice A l.length cl] w fun e w' => e = .returned (.bool true) ∧ Below w.heap.size w w' := by
 have hu36 := Try.underlying36
 have hu23 := Try.underlying23
 have HB := Aside0.mk (Below.refl w.heap.size w)
 have HC := Aside0.mk hC
 have HCM := Aside0.mk hcm
 have HL := Aside0.mk hL
 have HCL := Aside0.mk hcl
 have HSL := Aside0.mk hsl
 have HSN := Aside0.mk hsn
 have HST := Aside0.mk hst
 have HG := Aside0.mk hg
 clear hg
 clear hC hcm hL hcl hsl hsn hst
 go_enter Try.func7, Try.ntmps7
 have tok1 : True := trivial
 go_wp2_with (first | (have _ := tok1; (with_reducible refine gate_dst (N := 2) rfl ?_); refine box_event ?hg (N := 2) ?hd (cs := #[.int .i64 a, .int .i64 b, .int .i64 c, .int .i64 d, .slice Am sl.length cm]) (t := 36) ?hr ?_; (case hd => rfl); (case hg => rfl); (case hr => first | (go_simp; done) | (go_simp; rfl)); intro g2 hg w1 hbox hb; have hs : Below w.heap.size w w1 := below_step (by repeat (first | exact Below.refl _ _ | apply below_alloc | apply pw_below_drewN | apply below_drew1)) hb; have SZ1 := Aside0.mk (show w.heap.size ≤ g2 ∧ g2 < w1.heap.size from ⟨by rw [hg]; exact (below_size (by repeat (first | exact Below.refl _ _ | apply below_alloc | apply pw_below_drewN | apply below_drew1))), blk_lt hbox⟩); replace HB := hbs HB hs; have q0_ := SZ1.out; clear q0_; have BKg2 := Aside0.mk hbox; clear hb hbox hg hs; obtain ⟨⟨hcg2_0, hfg2_0⟩, ⟨hcg2_1, hfg2_1⟩, ⟨hcg2_2, hfg2_2⟩, ⟨hcg2_3, hfg2_3⟩, ⟨hcg2_4, hfg2_4⟩⟩ := cells5 BKg2.out; clear tok1; have tok2 : True := trivial) | (have _ := tok2; go_at_call 8; (with_reducible refine (awake_ev _).mono ?_); rintro e w2 ⟨rfl, hb⟩; (try clear hcg2_0 hfg2_0 hcg2_1 hfg2_1 hcg2_2 hfg2_2 hcg2_3 hfg2_3 hcg2_4 hfg2_4); have hs : Below w1.heap.size w1 w2 := below_step (by repeat (first | exact Below.refl _ _ | apply below_alloc | apply pw_below_drewN | apply below_drew1)) hb; have hl : w1.heap.size ≤ _ := below_size (w := w1) (by repeat (first | exact Below.refl _ _ | apply below_alloc | apply pw_below_drewN | apply below_drew1)); have SZ2 := Aside0.mk (show w1.heap.size ≤ w2.heap.size from hs.size); replace BKg2 := bb BKg2 hs; replace HB := hbs HB hs; clear hb hs; (try clear hl); obtain ⟨⟨hcg2_0, hfg2_0⟩, ⟨hcg2_1, hfg2_1⟩, ⟨hcg2_2, hfg2_2⟩, ⟨hcg2_3, hfg2_3⟩, ⟨hcg2_4, hfg2_4⟩⟩ := cells5 BKg2.out; clear tok2; have tok3 : True := trivial) | (have _ := tok3; go_at_call 9; (with_reducible refine (twoslotlaw08_big.calls a b c d true _ HG.out).mono ?_); rintro e w3 ⟨rfl, hb⟩; (try clear hcg2_0 hfg2_0 hcg2_1 hfg2_1 hcg2_2 hfg2_2 hcg2_3 hfg2_3 hcg2_4 hfg2_4); have hs : Below w2.heap.size w2 w3 := below_step (by repeat (first | exact Below.refl _ _ | apply below_alloc | apply pw_below_drewN | apply below_drew1)) hb; have hl : w2.heap.size ≤ _ := below_size (w := w2) (by repeat (first | exact Below.refl _ _ | apply below_alloc | apply pw_below_drewN | apply below_drew1)); have SZ3 := Aside0.mk (show w2.heap.size ≤ w3.heap.size from hs.size); replace BKg2 := bb BKg2 hs; replace HB := hbs HB hs; clear hb hs; (try clear hl); obtain ⟨⟨hcg2_0, hfg2_0⟩, ⟨hcg2_1, hfg2_1⟩, ⟨hcg2_2, hfg2_2⟩, ⟨hcg2_3, hfg2_3⟩, ⟨hcg2_4, hfg2_4⟩⟩ := cells5 BKg2.out; clear tok3))
 go_ret
 exact ⟨rfl, HB.out⟩
set_option maxHeartbeats 8000000 in
set_option maxRecDepth 100000 in
theorem DS_long (a b c d : Int) (Am : Option Addr) (cm : Nat) (sl : List (List Int)) (A : Option Addr) (cl : Nat) (l : List S69) (w : World) (hC : Kd.C (Kd.slice 5 (Kd.int .u8)) w Am sl.length sl) (hcm : sl.length ≤ cm) (hL : Kd.C k69 w A l.length l) (hcl : l.length ≤ cl) (hsl : ∀ x ∈ sl, IsB x ∧ x.length ≤ 1048576) (hsn : sl.length ≤ 1048576) (hst : ∀ x ∈ l, StepW x) (hg : twoslotlaw08_big.f a b c d = some false) (hl : twoslotlaw08_long.f 61 l = some true) : Calls Try.prog 7 #[.agg #[.int .i64 a, .int .i64 b, .int .i64 c, .int .i64 d, .slice Am sl.length cm], .slice A l.length cl] w fun e w' => e = .returned (.bool true) ∧ Below w.heap.size w w' := by
 have hu36 := Try.underlying36
 have hu23 := Try.underlying23
 have HB := Aside0.mk (Below.refl w.heap.size w)
 have HC := Aside0.mk hC
 have HCM := Aside0.mk hcm
 have HL := Aside0.mk hL
 have HCL := Aside0.mk hcl
 have HSL := Aside0.mk hsl
 have HSN := Aside0.mk hsn
 have HST := Aside0.mk hst
 have HG := Aside0.mk hg
 have HLG := Aside0.mk hl
 clear hg hl
 clear hC hcm hL hcl hsl hsn hst
 go_enter Try.func7, Try.ntmps7
 have tok1 : True := trivial
 go_wp2_with (first | (have _ := tok1; (with_reducible refine gate_dst (N := 2) rfl ?_); refine box_event ?hg (N := 2) ?hd (cs := #[.int .i64 a, .int .i64 b, .int .i64 c, .int .i64 d, .slice Am sl.length cm]) (t := 36) ?hr ?_; (case hd => rfl); (case hg => rfl); (case hr => first | (go_simp; done) | (go_simp; rfl)); intro g2 hg w1 hbox hb; have hs : Below w.heap.size w w1 := below_step (by repeat (first | exact Below.refl _ _ | apply below_alloc | apply pw_below_drewN | apply below_drew1)) hb; have SZ1 := Aside0.mk (show w.heap.size ≤ g2 ∧ g2 < w1.heap.size from ⟨by rw [hg]; exact (below_size (by repeat (first | exact Below.refl _ _ | apply below_alloc | apply pw_below_drewN | apply below_drew1))), blk_lt hbox⟩); replace HB := hbs HB hs; have q0_ := SZ1.out; clear q0_; have BKg2 := Aside0.mk hbox; clear hb hbox hg hs; obtain ⟨⟨hcg2_0, hfg2_0⟩, ⟨hcg2_1, hfg2_1⟩, ⟨hcg2_2, hfg2_2⟩, ⟨hcg2_3, hfg2_3⟩, ⟨hcg2_4, hfg2_4⟩⟩ := cells5 BKg2.out; clear tok1; have tok2 : True := trivial) | (have _ := tok2; go_at_call 8; (with_reducible refine (awake_ev _).mono ?_); rintro e w2 ⟨rfl, hb⟩; (try clear hcg2_0 hfg2_0 hcg2_1 hfg2_1 hcg2_2 hfg2_2 hcg2_3 hfg2_3 hcg2_4 hfg2_4); have hs : Below w1.heap.size w1 w2 := below_step (by repeat (first | exact Below.refl _ _ | apply below_alloc | apply pw_below_drewN | apply below_drew1)) hb; have hl : w1.heap.size ≤ _ := below_size (w := w1) (by repeat (first | exact Below.refl _ _ | apply below_alloc | apply pw_below_drewN | apply below_drew1)); have SZ2 := Aside0.mk (show w1.heap.size ≤ w2.heap.size from hs.size); replace BKg2 := bb BKg2 hs; replace HB := hbs HB hs; clear hb hs; (try clear hl); obtain ⟨⟨hcg2_0, hfg2_0⟩, ⟨hcg2_1, hfg2_1⟩, ⟨hcg2_2, hfg2_2⟩, ⟨hcg2_3, hfg2_3⟩, ⟨hcg2_4, hfg2_4⟩⟩ := cells5 BKg2.out; clear tok2; have tok3 : True := trivial) | (have _ := tok3; go_at_call 9; (with_reducible refine (twoslotlaw08_big.calls a b c d false _ HG.out).mono ?_); rintro e w3 ⟨rfl, hb⟩; (try clear hcg2_0 hfg2_0 hcg2_1 hfg2_1 hcg2_2 hfg2_2 hcg2_3 hfg2_3 hcg2_4 hfg2_4); have hs : Below w2.heap.size w2 w3 := below_step (by repeat (first | exact Below.refl _ _ | apply below_alloc | apply pw_below_drewN | apply below_drew1)) hb; have hl : w2.heap.size ≤ _ := below_size (w := w2) (by repeat (first | exact Below.refl _ _ | apply below_alloc | apply pw_below_drewN | apply below_drew1)); have SZ3 := Aside0.mk (show w2.heap.size ≤ w3.heap.size from hs.size); replace BKg2 := bb BKg2 hs; replace HB := hbs HB hs; clear hb hs; (try clear hl); obtain ⟨⟨hcg2_0, hfg2_0⟩, ⟨hcg2_1, hfg2_1⟩, ⟨hcg2_2, hfg2_2⟩, ⟨hcg2_3, hfg2_3⟩, ⟨hcg2_4, hfg2_4⟩⟩ := cells5 BKg2.out; clear tok3; have tok4 : True := trivial) | (have _ := tok4; go_at_call 28; (with_reducible refine (twoslotlaw08_long.calls 61 A cl l true _ ?s1 HCL.out HLG.out).mono ?_); (case s1 => exact Kd.C_below HL.out (by repeat (first | exact HB.out | apply below_alloc | apply pw_below_drewN | apply below_drew1))); rintro e w4 ⟨rfl, hd⟩; have hb := hd.below; (try clear hcg2_0 hfg2_0 hcg2_1 hfg2_1 hcg2_2 hfg2_2 hcg2_3 hfg2_3 hcg2_4 hfg2_4); have hs : Below w3.heap.size w3 w4 := below_step (by repeat (first | exact Below.refl _ _ | apply below_alloc | apply pw_below_drewN | apply below_drew1)) hb; have SZ4 := Aside0.mk (show w3.heap.size ≤ w4.heap.size from hs.size); replace BKg2 := bb BKg2 hs; replace HB := hbs HB hs; clear hb hd hs; obtain ⟨⟨hcg2_0, hfg2_0⟩, ⟨hcg2_1, hfg2_1⟩, ⟨hcg2_2, hfg2_2⟩, ⟨hcg2_3, hfg2_3⟩, ⟨hcg2_4, hfg2_4⟩⟩ := cells5 BKg2.out; clear tok4))
 go_ret
 exact ⟨rfl, HB.out⟩
set_option maxHeartbeats 8000000 in
set_option maxRecDepth 100000 in
theorem DS_bad (a b c d : Int) (Am : Option Addr) (cm : Nat) (sl : List (List Int)) (A : Option Addr) (cl : Nat) (l : List S69) (w : World) (hC : Kd.C (Kd.slice 5 (Kd.int .u8)) w Am sl.length sl) (hcm : sl.length ≤ cm) (hL : Kd.C k69 w A l.length l) (hcl : l.length ≤ cl) (hsl : ∀ x ∈ sl, IsB x ∧ x.length ≤ 1048576) (hsn : sl.length ≤ 1048576) (hst : ∀ x ∈ l, StepW x) (hg : twoslotlaw08_big.f a b c d = some false) (hl : twoslotlaw08_long.f 61 l = some false) (ho : ¬ OfOK a b c d sl) : Calls Try.prog 7 #[.agg #[.int .i64 a, .int .i64 b, .int .i64 c, .int .i64 d, .slice Am sl.length cm], .slice A l.length cl] w fun e w' => e = .returned (.bool true) ∧ Below w.heap.size w w' := by
 have hu36 := Try.underlying36
 have hu23 := Try.underlying23
 have HB := Aside0.mk (Below.refl w.heap.size w)
 have HC := Aside0.mk hC
 have HCM := Aside0.mk hcm
 have HL := Aside0.mk hL
 have HCL := Aside0.mk hcl
 have HSL := Aside0.mk hsl
 have HSN := Aside0.mk hsn
 have HST := Aside0.mk hst
 have HG := Aside0.mk hg
 have HLG := Aside0.mk hl
 have HO := Aside0.mk ho
 clear hg hl ho
 obtain ⟨q, hq, hq0⟩ : ∃ q : Int, q = (if okP a b c d = true then (90 : Int) else 2) ∧ q ≠ 0 := ⟨_, rfl, by split <;> decide⟩
 have HQ := Aside0.mk hq
 have d1 : (q == 0) = false := beq_false_of_ne hq0
 have d2 : (q != 0) = true := bne_iff_ne.mpr hq0
 have d3 : (q = 0) = False := eq_false hq0
 clear hq hq0
 clear hC hcm hL hcl hsl hsn hst
 go_enter Try.func7, Try.ntmps7
 have tok1 : True := trivial
 go_wp2_with (first | (have _ := tok1; (with_reducible refine gate_dst (N := 2) rfl ?_); refine box_event ?hg (N := 2) ?hd (cs := #[.int .i64 a, .int .i64 b, .int .i64 c, .int .i64 d, .slice Am sl.length cm]) (t := 36) ?hr ?_; (case hd => rfl); (case hg => rfl); (case hr => first | (go_simp; done) | (go_simp; rfl)); intro g2 hg w1 hbox hb; have hs : Below w.heap.size w w1 := below_step (by repeat (first | exact Below.refl _ _ | apply below_alloc | apply pw_below_drewN | apply below_drew1)) hb; have SZ1 := Aside0.mk (show w.heap.size ≤ g2 ∧ g2 < w1.heap.size from ⟨by rw [hg]; exact (below_size (by repeat (first | exact Below.refl _ _ | apply below_alloc | apply pw_below_drewN | apply below_drew1))), blk_lt hbox⟩); replace HB := hbs HB hs; have q0_ := SZ1.out; clear q0_; have BKg2 := Aside0.mk hbox; clear hb hbox hg hs; obtain ⟨⟨hcg2_0, hfg2_0⟩, ⟨hcg2_1, hfg2_1⟩, ⟨hcg2_2, hfg2_2⟩, ⟨hcg2_3, hfg2_3⟩, ⟨hcg2_4, hfg2_4⟩⟩ := cells5 BKg2.out; clear tok1; have tok2 : True := trivial) | (have _ := tok2; go_at_call 8; (with_reducible refine (awake_ev _).mono ?_); rintro e w2 ⟨rfl, hb⟩; (try clear hcg2_0 hfg2_0 hcg2_1 hfg2_1 hcg2_2 hfg2_2 hcg2_3 hfg2_3 hcg2_4 hfg2_4); have hs : Below w1.heap.size w1 w2 := below_step (by repeat (first | exact Below.refl _ _ | apply below_alloc | apply pw_below_drewN | apply below_drew1)) hb; have hl : w1.heap.size ≤ _ := below_size (w := w1) (by repeat (first | exact Below.refl _ _ | apply below_alloc | apply pw_below_drewN | apply below_drew1)); have SZ2 := Aside0.mk (show w1.heap.size ≤ w2.heap.size from hs.size); replace BKg2 := bb BKg2 hs; replace HB := hbs HB hs; clear hb hs; (try clear hl); obtain ⟨⟨hcg2_0, hfg2_0⟩, ⟨hcg2_1, hfg2_1⟩, ⟨hcg2_2, hfg2_2⟩, ⟨hcg2_3, hfg2_3⟩, ⟨hcg2_4, hfg2_4⟩⟩ := cells5 BKg2.out; clear tok2; have tok3 : True := trivial) | (have _ := tok3; go_at_call 9; (with_reducible refine (twoslotlaw08_big.calls a b c d false _ HG.out).mono ?_); rintro e w3 ⟨rfl, hb⟩; (try clear hcg2_0 hfg2_0 hcg2_1 hfg2_1 hcg2_2 hfg2_2 hcg2_3 hfg2_3 hcg2_4 hfg2_4); have hs : Below w2.heap.size w2 w3 := below_step (by repeat (first | exact Below.refl _ _ | apply below_alloc | apply pw_below_drewN | apply below_drew1)) hb; have hl : w2.heap.size ≤ _ := below_size (w := w2) (by repeat (first | exact Below.refl _ _ | apply below_alloc | apply pw_below_drewN | apply below_drew1)); have SZ3 := Aside0.mk (show w2.heap.size ≤ w3.heap.size from hs.size); replace BKg2 := bb BKg2 hs; replace HB := hbs HB hs; clear hb hs; (try clear hl); obtain ⟨⟨hcg2_0, hfg2_0⟩, ⟨hcg2_1, hfg2_1⟩, ⟨hcg2_2, hfg2_2⟩, ⟨hcg2_3, hfg2_3⟩, ⟨hcg2_4, hfg2_4⟩⟩ := cells5 BKg2.out; clear tok3; have tok4 : True := trivial) | (have _ := tok4; go_at_call 28; (with_reducible refine (twoslotlaw08_long.calls 61 A cl l false _ ?s1 HCL.out HLG.out).mono ?_); (case s1 => exact Kd.C_below HL.out (by repeat (first | exact HB.out | apply below_alloc | apply pw_below_drewN | apply below_drew1))); rintro e w4 ⟨rfl, hd⟩; have hb := hd.below; (try clear hcg2_0 hfg2_0 hcg2_1 hfg2_1 hcg2_2 hfg2_2 hcg2_3 hfg2_3 hcg2_4 hfg2_4); have hs : Below w3.heap.size w3 w4 := below_step (by repeat (first | exact Below.refl _ _ | apply below_alloc | apply pw_below_drewN | apply below_drew1)) hb; have SZ4 := Aside0.mk (show w3.heap.size ≤ w4.heap.size from hs.size); replace BKg2 := bb BKg2 hs; replace HB := hbs HB hs; clear hb hd hs; obtain ⟨⟨hcg2_0, hfg2_0⟩, ⟨hcg2_1, hfg2_1⟩, ⟨hcg2_2, hfg2_2⟩, ⟨hcg2_3, hfg2_3⟩, ⟨hcg2_4, hfg2_4⟩⟩ := cells5 BKg2.out; clear tok4; have tok5 : True := trivial) | (have _ := tok5; go_at_call 29; (with_reducible refine (Twin_Wb 1048577 a b c d Am cm sl a b c d sl _ ?s1 HCM.out HSL.out (twin_ev2 a b c d sl HSL.out HSN.out)).mono ?_); (case s1 => exact Kd.C_below HC.out (by repeat (first | exact HB.out | apply below_alloc | apply pw_below_drewN | apply below_drew1))); rintro e w5 ⟨v, rfl, hv, hb⟩; (try clear hcg2_0 hfg2_0 hcg2_1 hfg2_1 hcg2_2 hfg2_2 hcg2_3 hfg2_3 hcg2_4 hfg2_4); have hs : Below w4.heap.size w4 w5 := below_step (by repeat (first | exact Below.refl _ _ | apply below_alloc | apply pw_below_drewN | apply below_drew1)) hb; have hl : w4.heap.size ≤ _ := below_size (w := w4) (by repeat (first | exact Below.refl _ _ | apply below_alloc | apply pw_below_drewN | apply below_drew1)); have SZ5 := Aside0.mk (show w4.heap.size ≤ w5.heap.size from hs.size); replace BKg2 := bb BKg2 hs; have HTN := Aside0.mk (N_iv (base := w.heap.size) hv (by have := SZ1.out; have := SZ2.out; have := SZ3.out; have := SZ4.out; omega)); replace HB := hbs HB hs; clear hv; obtain ⟨A6, c6, e6⟩ := Kd.N_slice HTN.out; subst e6; clear hb hs; (try clear hl); obtain ⟨⟨hcg2_0, hfg2_0⟩, ⟨hcg2_1, hfg2_1⟩, ⟨hcg2_2, hfg2_2⟩, ⟨hcg2_3, hfg2_3⟩, ⟨hcg2_4, hfg2_4⟩⟩ := cells5 BKg2.out; clear tok5; have tok6 : True := trivial) | (have _ := tok6; (with_reducible refine gate_dst (N := 6) rfl ?_); refine box_event ?hg (N := 6) ?hd (cs := #[.int .i64 0, .int .i64 0, .int .i64 0, .int .i64 0, .slice none 0 0]) (t := 36) ?hr ?_; (case hd => rfl); (case hg => rfl); (case hr => first | (go_simp; done) | (go_simp; rfl)); intro g6 hg w6 hbox hb; have hs : Below w5.heap.size w5 w6 := below_step (by repeat (first | exact Below.refl _ _ | apply below_alloc | apply pw_below_drewN | apply below_drew1)) hb; have SZ6 := Aside0.mk (show w5.heap.size ≤ g6 ∧ g6 < w6.heap.size from ⟨by rw [hg]; exact (below_size (by repeat (first | exact Below.refl _ _ | apply below_alloc | apply pw_below_drewN | apply below_drew1))), blk_lt hbox⟩); (try clear hcg2_0 hfg2_0 hcg2_1 hfg2_1 hcg2_2 hfg2_2 hcg2_3 hfg2_3 hcg2_4 hfg2_4); replace BKg2 := bb BKg2 hs; replace HTN := Aside0.mk (Kd.N_below HTN.out hs); replace HB := hbs HB hs; have q0_ := SZ1.out; have q1_ := SZ2.out; have q2_ := SZ3.out; have q3_ := SZ4.out; have q4_ := SZ5.out; have q5_ := SZ6.out; have hneg2_g6 : g2 ≠ g6 := (by omega); have hneg6_g2 := hneg2_g6.symm; clear q0_ q1_ q2_ q3_ q4_ q5_; have BKg6 := Aside0.mk hbox; clear hb hbox hg hs; obtain ⟨⟨hcg2_0, hfg2_0⟩, ⟨hcg2_1, hfg2_1⟩, ⟨hcg2_2, hfg2_2⟩, ⟨hcg2_3, hfg2_3⟩, ⟨hcg2_4, hfg2_4⟩⟩ := cells5 BKg2.out; obtain ⟨⟨hcg6_0, hfg6_0⟩, ⟨hcg6_1, hfg6_1⟩, ⟨hcg6_2, hfg6_2⟩, ⟨hcg6_3, hfg6_3⟩, ⟨hcg6_4, hfg6_4⟩⟩ := cells5 BKg6.out; clear tok6))
 (try clear hcg2_0 hfg2_0 hcg2_1 hfg2_1 hcg2_2 hfg2_2 hcg2_3 hfg2_3 hcg2_4 hfg2_4)
 (try clear hcg6_0 hfg6_0 hcg6_1 hfg6_1 hcg6_2 hfg6_2 hcg6_3 hfg6_3 hcg6_4 hfg6_4)
 have q0_ := SZ1.out
 have q1_ := SZ2.out
 have q2_ := SZ3.out
 have q3_ := SZ4.out
 have q4_ := SZ5.out
 have q5_ := SZ6.out
 generalize hw : (((((w6.setCell ⟨g6, 0, none⟩ (.int .i64 a)).setCell ⟨g6, 1, none⟩ (.int .i64 b)).setCell ⟨g6, 2, none⟩ (.int .i64 c)).setCell ⟨g6, 3, none⟩ (.int .i64 d)).setCell ⟨g6, 4, none⟩ (.slice A6 sl.length c6)) = w7
 have hs : Kept w6 w7 (Iv g6 (g6 + 1)) := by rw [← hw]; exact kput (kput (kput (kput (kput (Kept.refl _ _)))))
 replace BKg2 := kb BKg2 hs (Iv_out (by omega))
 replace HTN := Aside0.mk (Kd.N_kept HTN.out hs (Iv_apart (by have := SZ1.out; have := SZ2.out; have := SZ3.out; have := SZ4.out; have := SZ5.out; have := SZ6.out; omega)))
 replace BKg6 : Aside0 (w7.heap[g6]? = some (.cells #[.int .i64 a, .int .i64 b, .int .i64 c, .int .i64 d, .slice A6 sl.length c6] 36 (0, 0))) := ⟨by rw [← hw]; exact blk_put (blk_put (blk_put (blk_put (blk_put (BKg6.out) 0 _ rfl) 1 _ rfl) 2 _ rfl) 3 _ rfl) 4 _ rfl⟩
 have hq : w.heap.size ≤ g6 := (by omega)
 replace HB : Aside0 (Below w.heap.size w w7) := ⟨by rw [← hw]; exact below_set (below_set (below_set (below_set (below_set (HB.out) hq) hq) hq) hq) hq⟩
 have SZ7 := Aside0.mk (show w6.heap.size ≤ w7.heap.size from hs.1)
 clear q0_ q1_ q2_ q3_ q4_ q5_
 clear hs hw hq
 obtain ⟨⟨hcg2_0, hfg2_0⟩, ⟨hcg2_1, hfg2_1⟩, ⟨hcg2_2, hfg2_2⟩, ⟨hcg2_3, hfg2_3⟩, ⟨hcg2_4, hfg2_4⟩⟩ := cells5 BKg2.out
 obtain ⟨⟨hcg6_0, hfg6_0⟩, ⟨hcg6_1, hfg6_1⟩, ⟨hcg6_2, hfg6_2⟩, ⟨hcg6_3, hfg6_3⟩, ⟨hcg6_4, hfg6_4⟩⟩ := cells5 BKg6.out
 have tok7 : True := trivial
 go_wp2_with (first | (have _ := tok7; go_at_call 30; (with_reducible refine (Of_bad3 a b c d A6 c6 sl q _ ?s1 HO.out HQ.out).mono ?_); (case s1 => exact (Kd.N_reads' (N_of_kW (Kd.N_below HTN.out (by repeat (first | exact Below.refl _ _ | apply below_alloc | apply pw_below_drewN | apply below_drew1))))).2.2); rintro e w8 ⟨rfl, hb⟩; (try clear hcg2_0 hfg2_0 hcg2_1 hfg2_1 hcg2_2 hfg2_2 hcg2_3 hfg2_3 hcg2_4 hfg2_4); (try clear hcg6_0 hfg6_0 hcg6_1 hfg6_1 hcg6_2 hfg6_2 hcg6_3 hfg6_3 hcg6_4 hfg6_4); have hs : Below w7.heap.size w7 w8 := below_step (by repeat (first | exact Below.refl _ _ | apply below_alloc | apply pw_below_drewN | apply below_drew1)) hb; have hl : w7.heap.size ≤ _ := below_size (w := w7) (by repeat (first | exact Below.refl _ _ | apply below_alloc | apply pw_below_drewN | apply below_drew1)); have SZ8 := Aside0.mk (show w7.heap.size ≤ w8.heap.size from hs.size); replace BKg2 := bb BKg2 hs; replace HTN := Aside0.mk (Kd.N_below HTN.out hs); replace BKg6 := bb BKg6 hs; replace HB := hbs HB hs; clear hb hs; (try clear hl); obtain ⟨⟨hcg2_0, hfg2_0⟩, ⟨hcg2_1, hfg2_1⟩, ⟨hcg2_2, hfg2_2⟩, ⟨hcg2_3, hfg2_3⟩, ⟨hcg2_4, hfg2_4⟩⟩ := cells5 BKg2.out; obtain ⟨⟨hcg6_0, hfg6_0⟩, ⟨hcg6_1, hfg6_1⟩, ⟨hcg6_2, hfg6_2⟩, ⟨hcg6_3, hfg6_3⟩, ⟨hcg6_4, hfg6_4⟩⟩ := cells5 BKg6.out; clear tok7; have tok8 : True := trivial) | (have _ := tok8; go_at_call 31; (with_reducible refine (twoslotref08_Check.calls 10000 a b c d Am cm sl q _ ?s1 HCM.out (by rw [HQ.out]; exact chk_bad a b c d sl HO.out)).mono ?_); (case s1 => exact Kd.C_below HC.out (by repeat (first | exact HB.out | apply below_alloc | apply pw_below_drewN | apply below_drew1))); rintro e w9 ⟨rfl, hb⟩; (try clear hcg2_0 hfg2_0 hcg2_1 hfg2_1 hcg2_2 hfg2_2 hcg2_3 hfg2_3 hcg2_4 hfg2_4); (try clear hcg6_0 hfg6_0 hcg6_1 hfg6_1 hcg6_2 hfg6_2 hcg6_3 hfg6_3 hcg6_4 hfg6_4); have hs : Below w8.heap.size w8 w9 := below_step (by repeat (first | exact Below.refl _ _ | apply below_alloc | apply pw_below_drewN | apply below_drew1)) hb; have hl : w8.heap.size ≤ _ := below_size (w := w8) (by repeat (first | exact Below.refl _ _ | apply below_alloc | apply pw_below_drewN | apply below_drew1)); have SZ9 := Aside0.mk (show w8.heap.size ≤ w9.heap.size from hs.size); replace BKg2 := bb BKg2 hs; replace HTN := Aside0.mk (Kd.N_below HTN.out hs); replace BKg6 := bb BKg6 hs; replace HB := hbs HB hs; clear hb hs; (try clear hl); obtain ⟨⟨hcg2_0, hfg2_0⟩, ⟨hcg2_1, hfg2_1⟩, ⟨hcg2_2, hfg2_2⟩, ⟨hcg2_3, hfg2_3⟩, ⟨hcg2_4, hfg2_4⟩⟩ := cells5 BKg2.out; obtain ⟨⟨hcg6_0, hfg6_0⟩, ⟨hcg6_1, hfg6_1⟩, ⟨hcg6_2, hfg6_2⟩, ⟨hcg6_3, hfg6_3⟩, ⟨hcg6_4, hfg6_4⟩⟩ := cells5 BKg6.out; clear tok8))
 go_ret
 exact ⟨rfl, HB.out⟩
set_option maxHeartbeats 8000000 in
set_option maxRecDepth 100000 in
theorem DS_good (a b c d : Int) (Am : Option Addr) (cm : Nat) (sl : List (List Int)) (A : Option Addr) (cl : Nat) (l : List S69) (w : World) (hC : Kd.C (Kd.slice 5 (Kd.int .u8)) w Am sl.length sl) (hcm : sl.length ≤ cm) (hL : Kd.C k69 w A l.length l) (hcl : l.length ≤ cl) (hsl : ∀ x ∈ sl, IsB x ∧ x.length ≤ 1048576) (hsn : sl.length ≤ 1048576) (hst : ∀ x ∈ l, StepW x) (hg : twoslotlaw08_big.f a b c d = some false) (hl : twoslotlaw08_long.f 61 l = some false) (ho : OfOK a b c d sl) (hm : ¬ (a + b) * d > 400) (hlen : l.length ≤ 40) (hpl : ∀ j : Nat, j < l.length → (rd_T69 l (j : Int)).f5.length ≤ 200) : Calls Try.prog 7 #[.agg #[.int .i64 a, .int .i64 b, .int .i64 c, .int .i64 d, .slice Am sl.length cm], .slice A l.length cl] w fun e w' => e = .returned (.bool true) ∧ Below w.heap.size w w' := by
 have hu36 := Try.underlying36
 have hu23 := Try.underlying23
 have HB := Aside0.mk (Below.refl w.heap.size w)
 have HC := Aside0.mk hC
 have HCM := Aside0.mk hcm
 have HL := Aside0.mk hL
 have HCL := Aside0.mk hcl
 have HSL := Aside0.mk hsl
 have HSN := Aside0.mk hsn
 have HST := Aside0.mk hst
 have HG := Aside0.mk hg
 have HLG := Aside0.mk hl
 have HO := Aside0.mk ho
 have HS0 := Aside0.mk (show St a b c d (List.replicate (a + b).toNat false) ⟨sl, false, -1, 0⟩ 0 from ⟨fit_start ho hm, ⟨by show (-1 : Int) ≤ -1; decide, by show (-1 : Int) ≤ 9223372036854775807; decide⟩, Int.le_refl _, fun x hx => (hsl x hx).1⟩)
 have HLEN := Aside0.mk hlen
 have HPL := Aside0.mk hpl
 have HS8 := Aside0.mk (many_len ho.2.1 (many a b c d ho.1))
 have HAB := Aside0.mk (show 0 ≤ a + b ∧ a + b ≤ 100 by have := okP_iff.mp ho.1; omega)
 clear hm hlen hpl hg hl ho
 clear hC hcm hL hcl hsl hsn hst
 go_enter Try.func7, Try.ntmps7
 have tok1 : True := trivial
 go_wp2_with (first | (have _ := tok1; (with_reducible refine gate_dst (N := 2) rfl ?_); refine box_event ?hg (N := 2) ?hd (cs := #[.int .i64 a, .int .i64 b, .int .i64 c, .int .i64 d, .slice Am sl.length cm]) (t := 36) ?hr ?_; (case hd => rfl); (case hg => rfl); (case hr => first | (go_simp; done) | (go_simp; rfl)); intro g2 hg w1 hbox hb; have hs : Below w.heap.size w w1 := below_step (by repeat (first | exact Below.refl _ _ | apply below_alloc | apply pw_below_drewN | apply below_drew1)) hb; have SZ1 := Aside0.mk (show w.heap.size ≤ g2 ∧ g2 < w1.heap.size from ⟨by rw [hg]; exact (below_size (by repeat (first | exact Below.refl _ _ | apply below_alloc | apply pw_below_drewN | apply below_drew1))), blk_lt hbox⟩); replace HB := hbs HB hs; have q0_ := SZ1.out; clear q0_; have BKg2 := Aside0.mk hbox; clear hb hbox hg hs; obtain ⟨⟨hcg2_0, hfg2_0⟩, ⟨hcg2_1, hfg2_1⟩, ⟨hcg2_2, hfg2_2⟩, ⟨hcg2_3, hfg2_3⟩, ⟨hcg2_4, hfg2_4⟩⟩ := cells5 BKg2.out; clear tok1; have tok2 : True := trivial) | (have _ := tok2; go_at_call 8; (with_reducible refine (awake_ev _).mono ?_); rintro e w2 ⟨rfl, hb⟩; (try clear hcg2_0 hfg2_0 hcg2_1 hfg2_1 hcg2_2 hfg2_2 hcg2_3 hfg2_3 hcg2_4 hfg2_4); have hs : Below w1.heap.size w1 w2 := below_step (by repeat (first | exact Below.refl _ _ | apply below_alloc | apply pw_below_drewN | apply below_drew1)) hb; have hl : w1.heap.size ≤ _ := below_size (w := w1) (by repeat (first | exact Below.refl _ _ | apply below_alloc | apply pw_below_drewN | apply below_drew1)); have SZ2 := Aside0.mk (show w1.heap.size ≤ w2.heap.size from hs.size); replace BKg2 := bb BKg2 hs; replace HB := hbs HB hs; clear hb hs; (try clear hl); obtain ⟨⟨hcg2_0, hfg2_0⟩, ⟨hcg2_1, hfg2_1⟩, ⟨hcg2_2, hfg2_2⟩, ⟨hcg2_3, hfg2_3⟩, ⟨hcg2_4, hfg2_4⟩⟩ := cells5 BKg2.out; clear tok2; have tok3 : True := trivial) | (have _ := tok3; go_at_call 9; (with_reducible refine (twoslotlaw08_big.calls a b c d false _ HG.out).mono ?_); rintro e w3 ⟨rfl, hb⟩; (try clear hcg2_0 hfg2_0 hcg2_1 hfg2_1 hcg2_2 hfg2_2 hcg2_3 hfg2_3 hcg2_4 hfg2_4); have hs : Below w2.heap.size w2 w3 := below_step (by repeat (first | exact Below.refl _ _ | apply below_alloc | apply pw_below_drewN | apply below_drew1)) hb; have hl : w2.heap.size ≤ _ := below_size (w := w2) (by repeat (first | exact Below.refl _ _ | apply below_alloc | apply pw_below_drewN | apply below_drew1)); have SZ3 := Aside0.mk (show w2.heap.size ≤ w3.heap.size from hs.size); replace BKg2 := bb BKg2 hs; replace HB := hbs HB hs; clear hb hs; (try clear hl); obtain ⟨⟨hcg2_0, hfg2_0⟩, ⟨hcg2_1, hfg2_1⟩, ⟨hcg2_2, hfg2_2⟩, ⟨hcg2_3, hfg2_3⟩, ⟨hcg2_4, hfg2_4⟩⟩ := cells5 BKg2.out; clear tok3; have tok4 : True := trivial) | (have _ := tok4; go_at_call 28; (with_reducible refine (twoslotlaw08_long.calls 61 A cl l false _ ?s1 HCL.out HLG.out).mono ?_); (case s1 => exact Kd.C_below HL.out (by repeat (first | exact HB.out | apply below_alloc | apply pw_below_drewN | apply below_drew1))); rintro e w4 ⟨rfl, hd⟩; have hb := hd.below; (try clear hcg2_0 hfg2_0 hcg2_1 hfg2_1 hcg2_2 hfg2_2 hcg2_3 hfg2_3 hcg2_4 hfg2_4); have hs : Below w3.heap.size w3 w4 := below_step (by repeat (first | exact Below.refl _ _ | apply below_alloc | apply pw_below_drewN | apply below_drew1)) hb; have SZ4 := Aside0.mk (show w3.heap.size ≤ w4.heap.size from hs.size); replace BKg2 := bb BKg2 hs; replace HB := hbs HB hs; clear hb hd hs; obtain ⟨⟨hcg2_0, hfg2_0⟩, ⟨hcg2_1, hfg2_1⟩, ⟨hcg2_2, hfg2_2⟩, ⟨hcg2_3, hfg2_3⟩, ⟨hcg2_4, hfg2_4⟩⟩ := cells5 BKg2.out; clear tok4; have tok5 : True := trivial) | (have _ := tok5; go_at_call 29; (with_reducible refine (Twin_Wb 1048577 a b c d Am cm sl a b c d sl _ ?s1 HCM.out HSL.out (twin_ev2 a b c d sl HSL.out HSN.out)).mono ?_); (case s1 => exact Kd.C_below HC.out (by repeat (first | exact HB.out | apply below_alloc | apply pw_below_drewN | apply below_drew1))); rintro e w5 ⟨v, rfl, hv, hb⟩; (try clear hcg2_0 hfg2_0 hcg2_1 hfg2_1 hcg2_2 hfg2_2 hcg2_3 hfg2_3 hcg2_4 hfg2_4); have hs : Below w4.heap.size w4 w5 := below_step (by repeat (first | exact Below.refl _ _ | apply below_alloc | apply pw_below_drewN | apply below_drew1)) hb; have hl : w4.heap.size ≤ _ := below_size (w := w4) (by repeat (first | exact Below.refl _ _ | apply below_alloc | apply pw_below_drewN | apply below_drew1)); have SZ5 := Aside0.mk (show w4.heap.size ≤ w5.heap.size from hs.size); replace BKg2 := bb BKg2 hs; have HTN := Aside0.mk (N_iv (base := w.heap.size) hv (by have := SZ1.out; have := SZ2.out; have := SZ3.out; have := SZ4.out; omega)); replace HB := hbs HB hs; clear hv; obtain ⟨A6, c6, e6⟩ := Kd.N_slice HTN.out; subst e6; clear hb hs; (try clear hl); obtain ⟨⟨hcg2_0, hfg2_0⟩, ⟨hcg2_1, hfg2_1⟩, ⟨hcg2_2, hfg2_2⟩, ⟨hcg2_3, hfg2_3⟩, ⟨hcg2_4, hfg2_4⟩⟩ := cells5 BKg2.out; clear tok5; have tok6 : True := trivial) | (have _ := tok6; (with_reducible refine gate_dst (N := 6) rfl ?_); refine box_event ?hg (N := 6) ?hd (cs := #[.int .i64 0, .int .i64 0, .int .i64 0, .int .i64 0, .slice none 0 0]) (t := 36) ?hr ?_; (case hd => rfl); (case hg => rfl); (case hr => first | (go_simp; done) | (go_simp; rfl)); intro g6 hg w6 hbox hb; have hs : Below w5.heap.size w5 w6 := below_step (by repeat (first | exact Below.refl _ _ | apply below_alloc | apply pw_below_drewN | apply below_drew1)) hb; have SZ6 := Aside0.mk (show w5.heap.size ≤ g6 ∧ g6 < w6.heap.size from ⟨by rw [hg]; exact (below_size (by repeat (first | exact Below.refl _ _ | apply below_alloc | apply pw_below_drewN | apply below_drew1))), blk_lt hbox⟩); (try clear hcg2_0 hfg2_0 hcg2_1 hfg2_1 hcg2_2 hfg2_2 hcg2_3 hfg2_3 hcg2_4 hfg2_4); replace BKg2 := bb BKg2 hs; replace HTN := Aside0.mk (Kd.N_below HTN.out hs); replace HB := hbs HB hs; have q0_ := SZ1.out; have q1_ := SZ2.out; have q2_ := SZ3.out; have q3_ := SZ4.out; have q4_ := SZ5.out; have q5_ := SZ6.out; have hneg2_g6 : g2 ≠ g6 := (by omega); have hneg6_g2 := hneg2_g6.symm; clear q0_ q1_ q2_ q3_ q4_ q5_; have BKg6 := Aside0.mk hbox; clear hb hbox hg hs; obtain ⟨⟨hcg2_0, hfg2_0⟩, ⟨hcg2_1, hfg2_1⟩, ⟨hcg2_2, hfg2_2⟩, ⟨hcg2_3, hfg2_3⟩, ⟨hcg2_4, hfg2_4⟩⟩ := cells5 BKg2.out; obtain ⟨⟨hcg6_0, hfg6_0⟩, ⟨hcg6_1, hfg6_1⟩, ⟨hcg6_2, hfg6_2⟩, ⟨hcg6_3, hfg6_3⟩, ⟨hcg6_4, hfg6_4⟩⟩ := cells5 BKg6.out; clear tok6))
 (try clear hcg2_0 hfg2_0 hcg2_1 hfg2_1 hcg2_2 hfg2_2 hcg2_3 hfg2_3 hcg2_4 hfg2_4)
 (try clear hcg6_0 hfg6_0 hcg6_1 hfg6_1 hcg6_2 hfg6_2 hcg6_3 hfg6_3 hcg6_4 hfg6_4)
 have q0_ := SZ1.out
 have q1_ := SZ2.out
 have q2_ := SZ3.out
 have q3_ := SZ4.out
 have q4_ := SZ5.out
 have q5_ := SZ6.out
 generalize hw : (((((w6.setCell ⟨g6, 0, none⟩ (.int .i64 a)).setCell ⟨g6, 1, none⟩ (.int .i64 b)).setCell ⟨g6, 2, none⟩ (.int .i64 c)).setCell ⟨g6, 3, none⟩ (.int .i64 d)).setCell ⟨g6, 4, none⟩ (.slice A6 sl.length c6)) = w7
 have hs : Kept w6 w7 (Iv g6 (g6 + 1)) := by rw [← hw]; exact kput (kput (kput (kput (kput (Kept.refl _ _)))))
 replace BKg2 := kb BKg2 hs (Iv_out (by omega))
 replace HTN := Aside0.mk (Kd.N_kept HTN.out hs (Iv_apart (by have := SZ1.out; have := SZ2.out; have := SZ3.out; have := SZ4.out; have := SZ5.out; have := SZ6.out; omega)))
 replace BKg6 : Aside0 (w7.heap[g6]? = some (.cells #[.int .i64 a, .int .i64 b, .int .i64 c, .int .i64 d, .slice A6 sl.length c6] 36 (0, 0))) := ⟨by rw [← hw]; exact blk_put (blk_put (blk_put (blk_put (blk_put (BKg6.out) 0 _ rfl) 1 _ rfl) 2 _ rfl) 3 _ rfl) 4 _ rfl⟩
 have hq : w.heap.size ≤ g6 := (by omega)
 replace HB : Aside0 (Below w.heap.size w w7) := ⟨by rw [← hw]; exact below_set (below_set (below_set (below_set (below_set (HB.out) hq) hq) hq) hq) hq⟩
 have SZ7 := Aside0.mk (show w6.heap.size ≤ w7.heap.size from hs.1)
 clear q0_ q1_ q2_ q3_ q4_ q5_
 clear hs hw hq
 obtain ⟨⟨hcg2_0, hfg2_0⟩, ⟨hcg2_1, hfg2_1⟩, ⟨hcg2_2, hfg2_2⟩, ⟨hcg2_3, hfg2_3⟩, ⟨hcg2_4, hfg2_4⟩⟩ := cells5 BKg2.out
 obtain ⟨⟨hcg6_0, hfg6_0⟩, ⟨hcg6_1, hfg6_1⟩, ⟨hcg6_2, hfg6_2⟩, ⟨hcg6_3, hfg6_3⟩, ⟨hcg6_4, hfg6_4⟩⟩ := cells5 BKg6.out
 have tok7 : True := trivial
 go_wp2_with (first | (have _ := tok7; go_at_call 30; (with_reducible refine (Of_good a b c d A6 c6 sl _ ?s1 HO.out).mono ?_); (case s1 => exact (Kd.N_reads' (N_of_kW (Kd.N_below HTN.out (by repeat (first | exact Below.refl _ _ | apply below_alloc | apply pw_below_drewN | apply below_drew1))))).2.2); rintro e w8 ⟨DA, dr_, As_, n_A, cs_, Ag_, m_, cg_, rfl, hv, hb⟩; (try clear hcg2_0 hfg2_0 hcg2_1 hfg2_1 hcg2_2 hfg2_2 hcg2_3 hfg2_3 hcg2_4 hfg2_4); (try clear hcg6_0 hfg6_0 hcg6_1 hfg6_1 hcg6_2 hfg6_2 hcg6_3 hfg6_3 hcg6_4 hfg6_4); have hs : Below w7.heap.size w7 w8 := below_step (by repeat (first | exact Below.refl _ _ | apply below_alloc | apply pw_below_drewN | apply below_drew1)) hb; have hl : w7.heap.size ≤ _ := below_size (w := w7) (by repeat (first | exact Below.refl _ _ | apply below_alloc | apply pw_below_drewN | apply below_drew1)); have SZ8 := Aside0.mk (show w7.heap.size ≤ w8.heap.size from hs.size); replace BKg2 := bb BKg2 hs; replace HTN := Aside0.mk (Kd.N_below HTN.out hs); replace BKg6 := bb BKg6 hs; have HDA := Aside0.mk (Dk.iv (base := w.heap.size) hv (by have := SZ1.out; have := SZ2.out; have := SZ3.out; have := SZ4.out; have := SZ5.out; have := SZ6.out; have := SZ7.out; omega)); replace HB := hbs HB hs; clear hv; clear hb hs; (try clear hl); obtain ⟨⟨hcg2_0, hfg2_0⟩, ⟨hcg2_1, hfg2_1⟩, ⟨hcg2_2, hfg2_2⟩, ⟨hcg2_3, hfg2_3⟩, ⟨hcg2_4, hfg2_4⟩⟩ := cells5 BKg2.out; obtain ⟨⟨hcg6_0, hfg6_0⟩, ⟨hcg6_1, hfg6_1⟩, ⟨hcg6_2, hfg6_2⟩, ⟨hcg6_3, hfg6_3⟩, ⟨hcg6_4, hfg6_4⟩⟩ := cells5 BKg6.out; clear tok7; have tok8 : True := trivial) | (have _ := tok8; go_at_call 31; (with_reducible refine (twoslotref08_Check.calls 10000 a b c d Am cm sl 0 _ ?s1 HCM.out (chk_good a b c d sl HO.out)).mono ?_); (case s1 => exact Kd.C_below HC.out (by repeat (first | exact HB.out | apply below_alloc | apply pw_below_drewN | apply below_drew1))); rintro e w9 ⟨rfl, hb⟩; (try clear hcg2_0 hfg2_0 hcg2_1 hfg2_1 hcg2_2 hfg2_2 hcg2_3 hfg2_3 hcg2_4 hfg2_4); (try clear hcg6_0 hfg6_0 hcg6_1 hfg6_1 hcg6_2 hfg6_2 hcg6_3 hfg6_3 hcg6_4 hfg6_4); have hs : Below w8.heap.size w8 w9 := below_step (by repeat (first | exact Below.refl _ _ | apply below_alloc | apply pw_below_drewN | apply below_drew1)) hb; have hl : w8.heap.size ≤ _ := below_size (w := w8) (by repeat (first | exact Below.refl _ _ | apply below_alloc | apply pw_below_drewN | apply below_drew1)); have SZ9 := Aside0.mk (show w8.heap.size ≤ w9.heap.size from hs.size); replace BKg2 := bb BKg2 hs; replace HTN := Aside0.mk (Kd.N_below HTN.out hs); replace BKg6 := bb BKg6 hs; replace HDA := Aside0.mk ((HDA.out.kept (Kept.of_below hs (fun _ => False)) (fun _ _ h_ => h_))); replace HB := hbs HB hs; clear hb hs; (try clear hl); obtain ⟨⟨hcg2_0, hfg2_0⟩, ⟨hcg2_1, hfg2_1⟩, ⟨hcg2_2, hfg2_2⟩, ⟨hcg2_3, hfg2_3⟩, ⟨hcg2_4, hfg2_4⟩⟩ := cells5 BKg2.out; obtain ⟨⟨hcg6_0, hfg6_0⟩, ⟨hcg6_1, hfg6_1⟩, ⟨hcg6_2, hfg6_2⟩, ⟨hcg6_3, hfg6_3⟩, ⟨hcg6_4, hfg6_4⟩⟩ := cells5 BKg6.out; clear tok8; have tok9 : True := trivial) | (have _ := tok9; go_at_call 13; (with_reducible refine (ROf 1048577 a b c d Am cm sl sl _ ?s1 HCM.out (twin_ev2 a b c d sl HSL.out HSN.out) HAB.out.1 HAB.out.2).mono ?_); (case s1 => exact Kd.C_below HC.out (by repeat (first | exact HB.out | apply below_alloc | apply pw_below_drewN | apply below_drew1))); rintro e w10 ⟨DB, A4_, c4_, A7_, c7_, rfl, hv, hb⟩; (try clear hcg2_0 hfg2_0 hcg2_1 hfg2_1 hcg2_2 hfg2_2 hcg2_3 hfg2_3 hcg2_4 hfg2_4); (try clear hcg6_0 hfg6_0 hcg6_1 hfg6_1 hcg6_2 hfg6_2 hcg6_3 hfg6_3 hcg6_4 hfg6_4); have hs : Below w9.heap.size w9 w10 := below_step (by repeat (first | exact Below.refl _ _ | apply below_alloc | apply pw_below_drewN | apply below_drew1)) hb; have hl : w9.heap.size ≤ _ := below_size (w := w9) (by repeat (first | exact Below.refl _ _ | apply below_alloc | apply pw_below_drewN | apply below_drew1)); have SZ10 := Aside0.mk (show w9.heap.size ≤ w10.heap.size from hs.size); replace BKg2 := bb BKg2 hs; replace HTN := Aside0.mk (Kd.N_below HTN.out hs); replace BKg6 := bb BKg6 hs; replace HDA := Aside0.mk ((HDA.out.kept (Kept.of_below hs (fun _ => False)) (fun _ _ h_ => h_))); have HDB := Aside0.mk (Rk.iv (base := w.heap.size) hv (by have := SZ1.out; have := SZ2.out; have := SZ3.out; have := SZ4.out; have := SZ5.out; have := SZ6.out; have := SZ7.out; have := SZ8.out; have := SZ9.out; omega)); replace HB := hbs HB hs; clear hv; clear hb hs; (try clear hl); obtain ⟨⟨hcg2_0, hfg2_0⟩, ⟨hcg2_1, hfg2_1⟩, ⟨hcg2_2, hfg2_2⟩, ⟨hcg2_3, hfg2_3⟩, ⟨hcg2_4, hfg2_4⟩⟩ := cells5 BKg2.out; obtain ⟨⟨hcg6_0, hfg6_0⟩, ⟨hcg6_1, hfg6_1⟩, ⟨hcg6_2, hfg6_2⟩, ⟨hcg6_3, hfg6_3⟩, ⟨hcg6_4, hfg6_4⟩⟩ := cells5 BKg6.out; clear tok9))
 have q0_ := SZ1.out
 have q1_ := SZ2.out
 have q2_ := SZ3.out
 have q3_ := SZ4.out
 have q4_ := SZ5.out
 have q5_ := SZ6.out
 have q6_ := SZ7.out
 have q7_ := SZ8.out
 have q8_ := SZ9.out
 have q9_ := SZ10.out
 have HLO := Aside0.mk (show w.heap.size ≤ w4.heap.size by omega)
 have HAP := Aside0.mk (show w8.heap.size ≤ w9.heap.size by omega)
 clear q0_ q1_ q2_ q3_ q4_ q5_ q6_ q7_ q8_ q9_
 have tok10 : True := trivial
 go_wp2_with (first | (have _ := tok10; go_at_call 32; (with_reducible refine (spoil_N a b c d _ sl _ w _ HB.out (Kd.N_below HTN.out (by repeat (first | exact Below.refl _ _ | apply below_alloc | apply pw_below_drewN | apply below_drew1))) (Iv_lo HLO.out) (fun x hx => by have := (HSL.out x hx).2; omega) (by have := HS8.out; omega)).mono ?_); rintro e w11 ⟨rfl, hb, hk⟩; (try clear hcg2_0 hfg2_0 hcg2_1 hfg2_1 hcg2_2 hfg2_2 hcg2_3 hfg2_3 hcg2_4 hfg2_4); (try clear hcg6_0 hfg6_0 hcg6_1 hfg6_1 hcg6_2 hfg6_2 hcg6_3 hfg6_3 hcg6_4 hfg6_4); have q0_ := SZ1.out; have q1_ := SZ2.out; have q2_ := SZ3.out; have q3_ := SZ4.out; have q4_ := SZ5.out; have q5_ := SZ6.out; have q6_ := SZ7.out; have q7_ := SZ8.out; have q8_ := SZ9.out; have q9_ := SZ10.out; have hdA := HDA.out.kept hk (Iv_apart (.inr (by omega))); have hdB := HDB.out.kept hk (Iv_apart (.inr (by omega))); clear q0_ q1_ q2_ q3_ q4_ q5_ q6_ q7_ q8_ q9_; have HD0 := Aside0.mk (show DR w w11 (fun _ => False) a b c d DA DB (List.replicate (a + b).toNat false) ⟨sl, false, -1, 0⟩ (List.replicate (a + b).toNat false) ⟨sl, false, -1, 0⟩ from ⟨_, _, hb, hdA, hdB, Iv_apart (.inl HAP.out), fun _ hf => hf.elim⟩); clear hb hk hdA hdB HB HDA HDB HTN BKg2 BKg6; clear tok10))
 clear HC HCM HO HG HLG
 go_loopg [11] l.length (fun kq v11 wr => ∃ (i : Nat) (g : List Bool) (s : DS), v11 = .int .i64 (i : Int) ∧ Aside0 (i ≤ l.length ∧ l.length - i ≤ kq) ∧ Aside0 (DR w wr (fun _ => False) a b c d DA DB g s g s) ∧ Aside0 (St a b c d g s i))
 case atStart => exact ⟨0, (List.replicate (a + b).toNat false), ⟨sl, false, -1, 0⟩, rfl, Aside0.mk ⟨by omega, by omega⟩, HD0, HS0⟩
 case round =>
  clear HD0 HS0
  obtain ⟨wo, rfl⟩ : ∃ wo, wo = wr := ⟨_, rfl⟩
  obtain ⟨gko, hgko⟩ : ∃ gko, gko = gk := ⟨_, rfl⟩
  rw [← hgko] at hrel
  obtain ⟨i, g, s, rfl, AX, HDR, HSt⟩ := hrel
  by_cases hlt : i < l.length
  ·
   obtain ⟨ad, A5, c5, x, eA, hxr, hxw, hx5, q0, q1, q2, q3, q4, q5, hxc⟩ := step_elem HL.out HST.out i hlt
   subst eA
   have HXF := Aside0.mk (Kd.C_F heap51 hxc)
   have HX5 := Aside0.mk hx5
   have HXW := Aside0.mk hxw
   have HX2 := Aside0.mk (show x.f5.length ≤ 200 by rw [hxr]; exact HPL.out i hlt)
   replace q0 := pw_cell_below HDR.out.below q0
   replace q1 := pw_cell_below HDR.out.below q1
   replace q2 := pw_cell_below HDR.out.below q2
   replace q3 := pw_cell_below HDR.out.below q3
   replace q4 := pw_cell_below HDR.out.below q4
   replace q5 := pw_cell_below HDR.out.below q5
   have HLT := Aside0.mk hlt
   have b1 : decide ((i : Int) < (l.length : Int)) = true := decide_eq_true (by omega)
   have b2 : decide (i < l.length) = true := decide_eq_true hlt
   have b3 : (i < l.length) = True := eq_true hlt
   have HB := Aside0.mk (Below.refl wo.heap.size wo)
   clear hlt hxc hx5 hxw hxr
   have tok11 : True := trivial
   go_wp2_with (first | (have _ := tok11; (with_reducible refine gate_dst (N := 12) rfl ?_); refine box_event ?hg (N := 12) ?hd (cs := #[.int .u8 0, .int .i64 0, .int .i64 0, .int .i64 0, .int .i64 0, .slice none 0 0]) (t := 69) ?hr ?_; (case hd => rfl); (case hg => rfl); (case hr => first | (go_simp; done) | (go_simp; rfl)); intro g12 hg w12 hbox hb; have hs : Below wo.heap.size wo w12 := below_step (by repeat (first | exact Below.refl _ _ | apply below_alloc | apply pw_below_drewN | apply below_drew1)) hb; have SZ12 := Aside0.mk (show wo.heap.size ≤ g12 ∧ g12 < w12.heap.size from ⟨by rw [hg]; exact (below_size (by repeat (first | exact Below.refl _ _ | apply below_alloc | apply pw_below_drewN | apply below_drew1))), blk_lt hbox⟩); replace HB := hbs HB hs; have q0_ := SZ12.out; clear q0_; have BKg12 := Aside0.mk hbox; clear hb hbox hg hs; have hcg12_0 : w12.cell? ⟨g12, 0, none⟩ = some (.int .u8 0) := (blk_cell BKg12.out 0).trans rfl; have hfg12_0 := blk_frozen BKg12.out 0; have hcg12_1 : w12.cell? ⟨g12, 1, none⟩ = some (.int .i64 0) := (blk_cell BKg12.out 1).trans rfl; have hfg12_1 := blk_frozen BKg12.out 1; have hcg12_2 : w12.cell? ⟨g12, 2, none⟩ = some (.int .i64 0) := (blk_cell BKg12.out 2).trans rfl; have hfg12_2 := blk_frozen BKg12.out 2; have hcg12_3 : w12.cell? ⟨g12, 3, none⟩ = some (.int .i64 0) := (blk_cell BKg12.out 3).trans rfl; have hfg12_3 := blk_frozen BKg12.out 3; have hcg12_4 : w12.cell? ⟨g12, 4, none⟩ = some (.int .i64 0) := (blk_cell BKg12.out 4).trans rfl; have hfg12_4 := blk_frozen BKg12.out 4; have hcg12_5 : w12.cell? ⟨g12, 5, none⟩ = some (.slice none 0 0) := (blk_cell BKg12.out 5).trans rfl; have hfg12_5 := blk_frozen BKg12.out 5; clear tok11))
   ·
    skip
    (try clear hcg12_0 hfg12_0 hcg12_1 hfg12_1 hcg12_2 hfg12_2 hcg12_3 hfg12_3 hcg12_4 hfg12_4 hcg12_5 hfg12_5)
    have q0_ := SZ12.out
    generalize hw : ((((((w12.setCell ⟨g12, 0, none⟩ (.int .u8 x.f0)).setCell ⟨g12, 1, none⟩ (.int .i64 x.f1)).setCell ⟨g12, 2, none⟩ (.int .i64 x.f2)).setCell ⟨g12, 3, none⟩ (.int .i64 x.f3)).setCell ⟨g12, 4, none⟩ (.int .i64 x.f4)).setCell ⟨g12, 5, none⟩ (.slice A5 x.f5.length c5)) = w13
    have hs : Kept w12 w13 (Iv g12 (g12 + 1)) := by rw [← hw]; exact kput (kput (kput (kput (kput (kput (Kept.refl _ _))))))
    replace BKg12 : Aside0 (w13.heap[g12]? = some (.cells #[.int .u8 x.f0, .int .i64 x.f1, .int .i64 x.f2, .int .i64 x.f3, .int .i64 x.f4, .slice A5 x.f5.length c5] 69 (0, 0))) := ⟨by rw [← hw]; exact blk_put (blk_put (blk_put (blk_put (blk_put (blk_put (BKg12.out) 0 _ rfl) 1 _ rfl) 2 _ rfl) 3 _ rfl) 4 _ rfl) 5 _ rfl⟩
    have hq : wo.heap.size ≤ g12 := (by omega)
    replace HB : Aside0 (Below wo.heap.size wo w13) := ⟨by rw [← hw]; exact below_set (below_set (below_set (below_set (below_set (below_set (HB.out) hq) hq) hq) hq) hq) hq⟩
    have SZ13 := Aside0.mk (show w12.heap.size ≤ w13.heap.size from hs.1)
    clear q0_
    clear hs hw hq
    have hcg12_0 : w13.cell? ⟨g12, 0, none⟩ = some (.int .u8 x.f0) := (blk_cell BKg12.out 0).trans rfl
    have hfg12_0 := blk_frozen BKg12.out 0
    have hcg12_1 : w13.cell? ⟨g12, 1, none⟩ = some (.int .i64 x.f1) := (blk_cell BKg12.out 1).trans rfl
    have hfg12_1 := blk_frozen BKg12.out 1
    have hcg12_2 : w13.cell? ⟨g12, 2, none⟩ = some (.int .i64 x.f2) := (blk_cell BKg12.out 2).trans rfl
    have hfg12_2 := blk_frozen BKg12.out 2
    have hcg12_3 : w13.cell? ⟨g12, 3, none⟩ = some (.int .i64 x.f3) := (blk_cell BKg12.out 3).trans rfl
    have hfg12_3 := blk_frozen BKg12.out 3
    have hcg12_4 : w13.cell? ⟨g12, 4, none⟩ = some (.int .i64 x.f4) := (blk_cell BKg12.out 4).trans rfl
    have hfg12_4 := blk_frozen BKg12.out 4
    have hcg12_5 : w13.cell? ⟨g12, 5, none⟩ = some (.slice A5 x.f5.length c5) := (blk_cell BKg12.out 5).trans rfl
    have hfg12_5 := blk_frozen BKg12.out 5
    clear q0 q1 q2 q3 q4 q5 b1 b2 b3
    rw [show (x.f0 == 0) = true from by assumption]
    have q0_ := SZ12.out
    have q1_ := SZ13.out
    have HGA := Aside0.mk (show g12 < w13.heap.size ∧ wo.heap.size ≤ g12 by omega)
    clear q0_ q1_
    (try clear hcg12_5 hfg12_5)
    have HBA := HB
    have HN0 := Aside0.mk (Kd.N_nil kWp 51 w13 w13.heap.size (fun k_ => w13.heap.size ≤ k_))
    go_loopg [15, 16] x.f5.length (fun kq v15 v16 wr => ∃ (k : Nat) (vp : Value), vp = v15 ∧ v16 = .int .i64 (k : Int) ∧ Aside0 (k ≤ x.f5.length ∧ x.f5.length - k ≤ kq) ∧ Aside0 (Kd.N kWp 51 wr w13.heap.size (fun k_ => w13.heap.size ≤ k_) vp (x.f5.take k)) ∧ Aside0 (wr.heap[g12]? = some (.cells #[.int .u8 x.f0, .int .i64 x.f1, .int .i64 x.f2, .int .i64 x.f3, .int .i64 x.f4, .slice A5 x.f5.length c5] 69 (0, 0))) ∧ Aside0 (Below w13.heap.size w13 wr))
    case atStart => exact ⟨0, .slice none 0 0, rfl, rfl, Aside0.mk ⟨by omega, by omega⟩, HN0, BKg12, Aside0.mk (Below.refl _ _)⟩
    case round =>
     clear HN0 BKg12 HB
     obtain ⟨k, vp, rfl, rfl, AK, HN_, BKg12, HB⟩ := hrel
     have HN := Aside0.mk (N_ivb HN_.out)
     clear HN_
     by_cases hk : k < x.f5.length
     ·
      have HK := Aside0.mk hk
      have hsz := HB.out.size
      have hga := HGA.out
      have SZ50 := Aside0.mk (show w13.heap.size ≤ wr.heap.size from hsz)
      have SZ51 := Aside0.mk (show g12 < wr.heap.size by omega)
      have SZ52 := Aside0.mk (show g12 < w13.heap.size from hga.1)
      have HNL := Aside0.mk (Kd.N_lt HN.out)
      have hbw : Below w.heap.size w wr := below_step (below_step HDR.out.below HBA.out) HB.out
      obtain ⟨ad2, A3, c3, y, eA, _, hy, hle, q0, q1, q2, q3, hFy⟩ := puts_elem (Kd.F_below HXF.out hbw) k hk
      subst eA
      have HY := Aside0.mk (take_snoc hk hy)
      have HYF := Aside0.mk hFy
      have HYL := Aside0.mk hle
      have HYB := Aside0.mk (by rw [hy]; exact HXW.out.2.2 _ (List.getElem_mem hk) : IsB y.f3 ∧ y.f3.length ≤ 1048576)
      have i1 : decide ((k : Int) < (x.f5.length : Int)) = true := decide_eq_true (by omega)
      have i2 : decide (k < x.f5.length) = true := decide_eq_true hk
      have i3 : (k < x.f5.length) = True := eq_true hk
      clear hk hsz hga hbw hy hle hFy
      have HWL := Aside0.mk (show w.heap.size ≤ wr.heap.size from (below_step (below_step HDR.out.below HBA.out) HB.out).size)
      have hcg12_5 : wr.cell? ⟨g12, 5, none⟩ = some (.slice (some ad2) x.f5.length c5) := (blk_cell BKg12.out 5).trans rfl
      have hfg12_5 := blk_frozen BKg12.out 5
      have tok12 : True := trivial
      go_wp2_with (first | (have _ := tok12; (with_reducible refine gate_dst (N := 17) rfl ?_); refine box_event ?hg (N := 17) ?hd (cs := #[.int .i64 0, .int .i64 0, .int .i64 0, .slice none 0 0]) (t := 51) ?hr ?_; (case hd => rfl); (case hg => rfl); (case hr => first | (go_simp; done) | (go_simp; rfl)); intro g17 hg w14 hbox hb; have hs : Below wr.heap.size wr w14 := below_step (by repeat (first | exact Below.refl _ _ | apply below_alloc | apply pw_below_drewN | apply below_drew1)) hb; have SZ14 := Aside0.mk (show wr.heap.size ≤ g17 ∧ g17 < w14.heap.size from ⟨by rw [hg]; exact (below_size (by repeat (first | exact Below.refl _ _ | apply below_alloc | apply pw_below_drewN | apply below_drew1))), blk_lt hbox⟩); (try clear hcg12_5 hfg12_5); replace BKg12 := bb BKg12 hs; replace HN := Aside0.mk (Kd.N_below HN.out hs); replace HYF := Aside0.mk (Kd.F_below HYF.out hs); replace HB := hbs HB hs; have q0_ := SZ50.out; have q1_ := SZ51.out; have q2_ := SZ52.out; have q3_ := SZ14.out; have hneg12_g17 : g12 ≠ g17 := (by omega); have hneg17_g12 := hneg12_g17.symm; clear q0_ q1_ q2_ q3_; have BKg17 := Aside0.mk hbox; clear hb hbox hg hs; have hcg12_5 : w14.cell? ⟨g12, 5, none⟩ = some (.slice (some ad2) x.f5.length c5) := (blk_cell BKg12.out 5).trans rfl; have hfg12_5 := blk_frozen BKg12.out 5; obtain ⟨⟨hcg17_0, hfg17_0⟩, ⟨hcg17_1, hfg17_1⟩, ⟨hcg17_2, hfg17_2⟩, ⟨hcg17_3, hfg17_3⟩⟩ := cells4 BKg17.out; clear tok12))
      (try clear hcg17_0 hfg17_0 hcg17_1 hfg17_1 hcg17_2 hfg17_2 hcg17_3 hfg17_3)
      have q0_ := SZ50.out
      have q1_ := SZ51.out
      have q2_ := SZ52.out
      have q3_ := SZ14.out
      generalize hw : ((((w14.setCell ⟨g17, 0, none⟩ (.int .i64 y.f0)).setCell ⟨g17, 1, none⟩ (.int .i64 y.f1)).setCell ⟨g17, 2, none⟩ (.int .i64 y.f2)).setCell ⟨g17, 3, none⟩ (.slice A3 y.f3.length c3)) = w15
      have hs : Kept w14 w15 (Iv g17 (g17 + 1)) := by rw [← hw]; exact kput (kput (kput (kput (Kept.refl _ _))))
      replace BKg12 := kb BKg12 hs (Iv_out (by omega))
      replace HN := Aside0.mk (Kd.N_kept HN.out hs (Iv_apart (by omega)))
      replace HYF := Aside0.mk (Kd.F_kept HYF.out hs (fun k_ hk_ hi_ => by have h1_ := (show _ ≤ k_ from hi_.1); have h2_ := HWL.out; omega))
      replace BKg17 : Aside0 (w15.heap[g17]? = some (.cells #[.int .i64 y.f0, .int .i64 y.f1, .int .i64 y.f2, .slice A3 y.f3.length c3] 51 (0, 0))) := ⟨by rw [← hw]; exact blk_put (blk_put (blk_put (blk_put (BKg17.out) 0 _ rfl) 1 _ rfl) 2 _ rfl) 3 _ rfl⟩
      have hq : w13.heap.size ≤ g17 := (by omega)
      replace HB : Aside0 (Below w13.heap.size w13 w15) := ⟨by rw [← hw]; exact below_set (below_set (below_set (below_set (HB.out) hq) hq) hq) hq⟩
      have SZ15 := Aside0.mk (show w14.heap.size ≤ w15.heap.size from hs.1)
      clear q0_ q1_ q2_ q3_
      clear hs hw hq
      obtain ⟨⟨hcg17_0, hfg17_0⟩, ⟨hcg17_1, hfg17_1⟩, ⟨hcg17_2, hfg17_2⟩, ⟨hcg17_3, hfg17_3⟩⟩ := cells4 BKg17.out
      clear q0 q1 q2 q3 i1 i2 i3
      have tok13 : True := trivial
      go_wp2_with (first | (have _ := tok13; go_at_call 33; (with_reducible refine (RBytes A3 c3 y.f3 _ ?s1 HYB.out.1 HYB.out.2).mono ?_); (case s1 => exact Kd.F_now (Kd.F_below HYF.out (by repeat (first | exact Below.refl _ _ | apply below_alloc | apply pw_below_drewN | apply below_drew1)))); rintro e w16 ⟨v7, rfl, hv, hw, hb⟩; (try clear hcg17_0 hfg17_0 hcg17_1 hfg17_1 hcg17_2 hfg17_2 hcg17_3 hfg17_3); have hs : Below w15.heap.size w15 w16 := below_step (by repeat (first | exact Below.refl _ _ | apply below_alloc | apply pw_below_drewN | apply below_drew1)) hb; have hl : w15.heap.size ≤ _ := below_size (w := w15) (by repeat (first | exact Below.refl _ _ | apply below_alloc | apply pw_below_drewN | apply below_drew1)); have SZ16 := Aside0.mk (show w15.heap.size ≤ w16.heap.size from hs.size); replace BKg12 := bb BKg12 hs; replace HN := Aside0.mk (Kd.N_below HN.out hs); replace HYF := Aside0.mk (Kd.F_below HYF.out hs); replace BKg17 := bb BKg17 hs; have HV7 := Aside0.mk ((Kd.V_bound hv : Kd.V (Kd.int .u8) 5 w16 w15.heap.size (Iv w15.heap.size w16.heap.size) v7 y.f3)); have HW7 := Aside0.mk ((hw.bound : Wb w16 (Iv w15.heap.size w16.heap.size) v7 y.f3.length)); replace HB := hbs HB hs; clear hv hw; obtain ⟨A7, c7, e7⟩ := Kd.V_slice HV7.out; subst e7; clear hb hs; (try clear hl); obtain ⟨⟨hcg17_0, hfg17_0⟩, ⟨hcg17_1, hfg17_1⟩, ⟨hcg17_2, hfg17_2⟩, ⟨hcg17_3, hfg17_3⟩⟩ := cells4 BKg17.out; clear HYF; clear tok13; have tok14 : True := trivial) | (have _ := tok14; (with_reducible refine gate_builtin (b := .append) (xs := #[.tmp 94, .tmp 96]) rfl ?_); at_builtin; (try clear hcg17_0 hfg17_0 hcg17_1 hfg17_1 hcg17_2 hfg17_2 hcg17_3 hfg17_3); have q0_ := SZ50.out; have q1_ := SZ51.out; have q2_ := SZ52.out; have q3_ := SZ14.out; have q4_ := SZ15.out; have q5_ := SZ16.out; generalize hw : (w16.setCell ⟨g17, 3, none⟩ (.slice A7 y.f3.length c7)) = w17; have HZq := Aside0.mk (show w16.heap.size = w17.heap.size from (by rw [← hw]; simp [World.setCell])); have hs : Kept w16 w17 (Iv g17 (g17 + 1)) := (by rw [← hw]; exact kput (Kept.refl _ _)); replace BKg12 := kb BKg12 hs (Iv_out (by omega)); replace HN := Aside0.mk (Kd.N_kept HN.out hs (Iv_apart (by omega))); replace HV7 := Aside0.mk (Kd.V_kept HV7.out hs (Iv_apart (by omega))); replace HW7 := Aside0.mk (HW7.out.step (fun k_ hk_ hl_ => hs.2 k_ hl_ (Iv_apart (by omega) k_ hk_))); replace BKg17 : Aside0 (w17.heap[g17]? = some (.cells #[.int .i64 y.f0, .int .i64 y.f1, .int .i64 y.f2, .slice A7 y.f3.length c7] 51 (0, 0))) := ⟨by rw [← hw]; exact blk_put (BKg17.out) 3 _ rfl⟩; have hq : w13.heap.size ≤ g17 := (by omega); replace HB : Aside0 (Below w13.heap.size w13 w17) := ⟨by rw [← hw]; exact below_set (HB.out) hq⟩; have SZ17 := Aside0.mk (show w16.heap.size ≤ w17.heap.size from hs.1); clear q0_ q1_ q2_ q3_ q4_ q5_; clear hs hw hq; have q0_ := SZ50.out; have q1_ := SZ51.out; have q2_ := SZ52.out; have q3_ := SZ14.out; have q4_ := SZ15.out; have q5_ := SZ16.out; have q6_ := SZ17.out; have HI7 := Aside0.mk (show w13.heap.size ≤ w15.heap.size ∧ wr.heap.size ≤ w15.heap.size by omega); clear q0_ q1_ q2_ q3_ q4_ q5_ q6_; refine Kd.N_append kWp (w0 := w13) w13.heap.size rfl (.tmp 94) (.tmp 96) 38 51 (.agg #[.int .i64 0, .int .i64 0, .int .i64 0, .slice none 0 0]) 48 rfl Try.underlying38 info51 rfl (by decide) (by omega) vp (x.f5.take k) y [.int .i64 y.f0, .int .i64 y.f1, .int .i64 y.f2, .slice A7 y.f3.length c7] (fun k_ => w13.heap.size ≤ k_) (Iv w15.heap.size w16.heap.size) rfl (by first | rfl | (rw [← HZq.out]; rfl)) (FK_put HV7.out HW7.out) (fun k_ hk_ => ⟨Iv_lo HI7.out.1 k_ hk_, Iv_own HNL.out HI7.out.2 k_ hk_⟩) (fun k_ hk_ => Nat.le_trans HB.out.size hk_) (Kd.N_mono HN.out (Iv_lo (Nat.le_refl _))) HB.out HB.out.size (by rw [List.length_take]; have := HX2.out; omega) ?_; intro v9 w9 ho hb hg hat_; have HN9 := Aside0.mk (by rw [← HY.out]; exact ho : Kd.N kWp 51 w9 w13.heap.size (fun k_ => w13.heap.size ≤ k_) v9 (x.f5.take (k + 1))); have BK9 := Aside0.mk (blk_grown BKg12.out hg (Kd.N_ne HN.out BKg12.out (by decide))); have HB9 := Aside0.mk hb; clear ho hb hg hat_; clear tok14))
      have hkk := HK.out
      have hak := AK.out
      have hx2 := HX2.out
      go_roundg (gk - 1)
      case measure => omega
      case rel => exact ⟨k + 1, _, rfl, by rw [show wrap64 ((k : Int) + 1) = ((k + 1 : Nat) : Int) by unfold wrap64; omega], Aside0.mk ⟨by omega, by omega⟩, HN9, BK9, HB9⟩
     ·
      have i1 : decide ((k : Int) < (x.f5.length : Int)) = false := decide_eq_false (by omega)
      have i2 : decide (k < x.f5.length) = false := decide_eq_false hk
      have i3 : (k < x.f5.length) = False := eq_false hk
      have hN_ := HN.out
      rw [List.take_of_length_le (by omega)] at hN_
      obtain ⟨Ap, cp, ep⟩ := Kd.N_slice hN_
      subst ep
      clear HN
      have HN := Aside0.mk hN_
      obtain ⟨⟨s2, er⟩, hR⟩ : ∃ R, putsL g.length d (sizeOf08 a b c) x.f5 s = R := ⟨_, rfl⟩
      have HR := Aside0.mk hR
      have hB2 := below_step HBA.out HB.out
      have hlt_ := HLT.out
      have hl40 := HLEN.out
      have HI40 := Aside0.mk (show i ≤ 40 by omega)
      have HSX := Aside0.mk (Iv_sub (b := wo.heap.size) (lo := w13.heap.size) (hi := wr.heap.size) (c := wr.heap.size) HBA.out.size (Nat.le_refl _))
      have HDX := Aside0.mk (DR.fresh HDR.out hB2)
      have HIX := Aside0.mk (show Iv wo.heap.size wr.heap.size g12 from ⟨HGA.out.2, by have := HGA.out.1; have := HB.out.size; omega⟩)
      have HNB := Aside0.mk (Nat.le_trans HDR.out.below.size HBA.out.size)
      have HB := Aside0.mk (Below.refl wr.heap.size wr)
      clear hN_ hk hB2 hR hlt_ hl40
      have hcg12_5 : wr.cell? ⟨g12, 5, none⟩ = some (.slice A5 x.f5.length c5) := (blk_cell BKg12.out 5).trans rfl
      have hfg12_5 := blk_frozen BKg12.out 5
      have tok15 : True := trivial
      go_wp2_with (first | (have _ := tok15; go_at_call 18; (with_reducible refine (DWriteA_R x.f5 Ap cp _ _ s2 er HR.out HSt.out.fit HSt.out.cutb (Kd.N_below HN.out (by repeat (first | exact Below.refl _ _ | apply below_alloc | apply pw_below_drewN | apply below_drew1))) HSX.out HX2.out (DR.step_ HDX.out (by repeat (first | exact Below.refl _ _ | apply below_alloc | apply pw_below_drewN | apply below_drew1)))).mono ?_); rintro e w18 ⟨rfl, hd, hX⟩; (try clear hcg12_5 hfg12_5); replace HDX := Aside0.mk hd; replace BKg12 := Aside0.mk (kw_X BKg12.out hX HIX.out); have HN_ := Aside0.mk (N_X HN.out hX HSX.out); clear HN; have HN := HN_; clear HN_; clear hd hX; replace HB := Aside0.mk (Below.refl w18.heap.size w18); have hcg12_5 : w18.cell? ⟨g12, 5, none⟩ = some (.slice A5 x.f5.length c5) := (blk_cell BKg12.out 5).trans rfl; have hfg12_5 := blk_frozen BKg12.out 5; clear tok15; have tok16 : True := trivial) | (have _ := tok16; go_at_call 34; (with_reducible refine (DAllB_R x.f5 A5 c5 i s2 er HR.out HSt.out HI40.out (Kd.F_below HXF.out (below_step HDX.out.below (by repeat (first | exact Below.refl _ _ | apply below_alloc | apply pw_below_drewN | apply below_drew1)))) HXW.out.puts HX2.out (DR.step_ HDX.out (by repeat (first | exact Below.refl _ _ | apply below_alloc | apply pw_below_drewN | apply below_drew1)))).mono ?_); rintro e w19 ⟨rfl, hd, hX⟩; (try clear hcg12_5 hfg12_5); replace HDX := Aside0.mk hd; replace BKg12 := Aside0.mk (kw_X BKg12.out hX HIX.out); have HN_ := Aside0.mk (N_X HN.out hX HSX.out); clear HN; have HN := HN_; clear HN_; clear hd hX; replace HB := Aside0.mk (Below.refl w19.heap.size w19); have hcg12_5 : w19.cell? ⟨g12, 5, none⟩ = some (.slice A5 x.f5.length c5) := (blk_cell BKg12.out 5).trans rfl; have hfg12_5 := blk_frozen BKg12.out 5; clear tok16))
      (try clear hcg12_5 hfg12_5)
      clear BKg12
      obtain ⟨us, hus⟩ := PutsC_of_N HN.out
      obtain ⟨X_, hX_⟩ : ∃ X_, X_ = Iv wo.heap.size wr.heap.size := ⟨_, rfl⟩
      obtain ⟨O_, hO_⟩ : ∃ O_, O_ = Iv w13.heap.size wr.heap.size := ⟨_, rfl⟩
      rw [← hO_] at hus
      rw [← hX_] at HDX
      have HPC := Aside0.mk hus
      have HOX := Aside0.mk (show ∀ k_, O_ k_ → X_ k_ ∧ w.heap.size ≤ k_ from fun k_ hk_ => by rw [hO_] at hk_; rw [hX_]; exact ⟨HSX.out k_ hk_, Nat.le_trans HNB.out hk_.1⟩)
      have HLS := Aside0.mk (show ∀ j, (x.f5.getD j z51).f3.length ≤ 1048576 from fun j => puts_len HXW.out.2.2 j)
      clear hus hX_ hO_ HN HIX HNB HSX HB
      go_loopg [18] x.f5.length (fun kq v18 wr => ∃ k : Nat, v18 = .int .i64 (k : Int) ∧ Aside0 (k ≤ x.f5.length ∧ x.f5.length - k ≤ kq) ∧ Aside0 (DR w wr X_ a b c d DA DB g s2 g s2) ∧ Aside0 (PutsC wr O_ Ap x.f5.length us (fun j => (x.f5.getD j z51).f3.length)))
      case atStart => exact ⟨0, rfl, Aside0.mk ⟨by omega, by omega⟩, HDX, HPC⟩
      case round =>
       clear HDX HPC
       obtain ⟨gk2, hgk2⟩ : ∃ gk2, gk2 = gk := ⟨_, rfl⟩
       rw [← hgk2] at hrel
       obtain ⟨k, rfl, AK, HDX, HPC⟩ := hrel
       by_cases hk : k < x.f5.length
       ·
        have HK := Aside0.mk hk
        obtain ⟨lk, hlk⟩ : ∃ lk, lk = (x.f5.getD k z51).f3.length := ⟨_, rfl⟩
        obtain ⟨ad3, eAp, _, hck, hwk⟩ := HPC.out k hk
        obtain ⟨A7, c7, hu⟩ := hwk.shape
        subst eAp
        rw [hu] at hck
        simp only [← hlk] at hck
        have HU := Aside0.mk (show us k = .slice A7 lk c7 by rw [hu, hlk])
        have HLK := Aside0.mk hlk
        have i1 : decide ((k : Int) < (x.f5.length : Int)) = true := decide_eq_true (by omega)
        have i2 : decide (k < x.f5.length) = true := decide_eq_true hk
        have i3 : (k < x.f5.length) = True := eq_true hk
        clear hk hwk hu hlk
        go_wp2_with (fail)
        go_loopg [19] lk (fun kq v19 wr => ∃ q : Nat, v19 = .int .i64 (q : Int) ∧ Aside0 (q ≤ lk ∧ lk - q ≤ kq) ∧ Aside0 (DR w wr X_ a b c d DA DB g s2 g s2) ∧ Aside0 (PutsC wr O_ (some ad3) x.f5.length us (fun j => (x.f5.getD j z51).f3.length)))
        case atStart => exact ⟨0, rfl, Aside0.mk ⟨by omega, by omega⟩, HDX, HPC⟩
        case round =>
         clear HDX HPC hck
         obtain ⟨q, rfl, AQ, HDX, HPC⟩ := hrel
         obtain ⟨ad4, eAp, _, hck, hwk⟩ := HPC.out k HK.out
         injection eAp with eAp
         subst eAp
         rw [HU.out] at hck hwk
         simp only [← HLK.out] at hwk
         by_cases hq : q < lk
         ·
          obtain ⟨gq, rfl⟩ := Wb.some hwk (by omega)
          obtain ⟨⟨b_, hcq⟩, hfq, hokg⟩ := Wb.cell hwk hq
          have HWK := Aside0.mk (hwk.mono (fun k_ hk_ => hk_.1) : Wb wr O_ _ lk)
          have HGN := Aside0.mk (show gq ≠ ad3.block from hokg.2)
          have j1 : decide ((q : Int) < (lk : Int)) = true := decide_eq_true (by omega)
          have j2 : decide (q < lk) = true := decide_eq_true hq
          have j3 : (q < lk) = True := eq_true hq
          have HQ := Aside0.mk hq
          clear hq hokg hwk
          go_wp2_with (fail)
          have haq := AQ.out
          have hqq := HQ.out
          have hll := HLK.out
          have hls := HLS.out k
          go_roundg (gk - 1)
          case measure => omega
          case rel => exact ⟨q + 1, by rw [show wrap64 ((q : Int) + 1) = ((q + 1 : Nat) : Int) by unfold wrap64; omega], Aside0.mk ⟨by omega, by omega⟩, Aside0.mk (HDX.out.set HWK.out hqq HOX.out _), Aside0.mk (HPC.out.set (fun ad_ he_ => by injection he_ with he_; rw [← he_]; exact HGN.out) q _)⟩
         ·
          have j1 : decide ((q : Int) < (lk : Int)) = false := decide_eq_false (by omega)
          have j2 : decide (q < lk) = false := decide_eq_false hq
          have j3 : (q < lk) = False := eq_false hq
          clear hq hwk
          go_wp2_with (fail)
          have hkk := HK.out
          have hak := AK.out
          have hx2 := HX2.out
          go_roundg (gk2 - 1)
          case measure => rw [← hgk2]; omega
          case rel => exact ⟨k + 1, by rw [show wrap64 ((k : Int) + 1) = ((k + 1 : Nat) : Int) by unfold wrap64; omega], Aside0.mk ⟨by omega, by omega⟩, HDX, HPC⟩
       ·
        have i1 : decide ((k : Int) < (x.f5.length : Int)) = false := decide_eq_false (by omega)
        have i2 : decide (k < x.f5.length) = false := decide_eq_false hk
        have i3 : (k < x.f5.length) = False := eq_false hk
        clear hk HPC
        have HB := Aside0.mk (Below.refl wr.heap.size wr)
        have HS2 := Aside0.mk (show St a b c d g s2 (i + 1) from HSt.out.putsR HR.out HI40.out HX2.out HXW.out.2.2)
        have tok17 : True := trivial
        go_wp2_with (first | (have _ := tok17; go_at_call 12; (with_reducible refine (DSame HS2.out.fit (DR.step_ HDX.out (by repeat (first | exact Below.refl _ _ | apply below_alloc | apply pw_below_drewN | apply below_drew1)))).mono ?_); rintro e w20 ⟨rfl, hb⟩; have hs : Below wr.heap.size wr w20 := below_step (by repeat (first | exact Below.refl _ _ | apply below_alloc | apply pw_below_drewN | apply below_drew1)) hb; have hl : wr.heap.size ≤ _ := below_size (w := wr) (by repeat (first | exact Below.refl _ _ | apply below_alloc | apply pw_below_drewN | apply below_drew1)); have SZ20 := Aside0.mk (show wr.heap.size ≤ w20.heap.size from hs.size); replace HDX := Aside0.mk (DR.step_ HDX.out hs); replace HB := hbs HB hs; clear hb hs; (try clear hl); clear tok17))
        go_wp2_with (fail)
        have hax := AX.out
        have hlt_ := HLT.out
        have hl40 := HLEN.out
        go_roundg (gko - 1)
        case measure => rw [← hgko]; omega
        case rel => exact ⟨i + 1, _, _, by rw [show wrap64 ((i : Int) + 1) = ((i + 1 : Nat) : Int) by unfold wrap64; omega], Aside0.mk ⟨by omega, by omega⟩, Aside0.mk HDX.out.last, HS2⟩
   ·
    skip
    (try clear hcg12_0 hfg12_0 hcg12_1 hfg12_1 hcg12_2 hfg12_2 hcg12_3 hfg12_3 hcg12_4 hfg12_4 hcg12_5 hfg12_5)
    have q0_ := SZ12.out
    generalize hw : ((((((w12.setCell ⟨g12, 0, none⟩ (.int .u8 x.f0)).setCell ⟨g12, 1, none⟩ (.int .i64 x.f1)).setCell ⟨g12, 2, none⟩ (.int .i64 x.f2)).setCell ⟨g12, 3, none⟩ (.int .i64 x.f3)).setCell ⟨g12, 4, none⟩ (.int .i64 x.f4)).setCell ⟨g12, 5, none⟩ (.slice A5 x.f5.length c5)) = w21
    have hs : Kept w12 w21 (Iv g12 (g12 + 1)) := by rw [← hw]; exact kput (kput (kput (kput (kput (kput (Kept.refl _ _))))))
    replace BKg12 : Aside0 (w21.heap[g12]? = some (.cells #[.int .u8 x.f0, .int .i64 x.f1, .int .i64 x.f2, .int .i64 x.f3, .int .i64 x.f4, .slice A5 x.f5.length c5] 69 (0, 0))) := ⟨by rw [← hw]; exact blk_put (blk_put (blk_put (blk_put (blk_put (blk_put (BKg12.out) 0 _ rfl) 1 _ rfl) 2 _ rfl) 3 _ rfl) 4 _ rfl) 5 _ rfl⟩
    have hq : wo.heap.size ≤ g12 := (by omega)
    replace HB : Aside0 (Below wo.heap.size wo w21) := ⟨by rw [← hw]; exact below_set (below_set (below_set (below_set (below_set (below_set (HB.out) hq) hq) hq) hq) hq) hq⟩
    have SZ21 := Aside0.mk (show w12.heap.size ≤ w21.heap.size from hs.1)
    clear q0_
    clear hs hw hq
    have hcg12_0 : w21.cell? ⟨g12, 0, none⟩ = some (.int .u8 x.f0) := (blk_cell BKg12.out 0).trans rfl
    have hfg12_0 := blk_frozen BKg12.out 0
    have hcg12_1 : w21.cell? ⟨g12, 1, none⟩ = some (.int .i64 x.f1) := (blk_cell BKg12.out 1).trans rfl
    have hfg12_1 := blk_frozen BKg12.out 1
    have hcg12_2 : w21.cell? ⟨g12, 2, none⟩ = some (.int .i64 x.f2) := (blk_cell BKg12.out 2).trans rfl
    have hfg12_2 := blk_frozen BKg12.out 2
    have hcg12_3 : w21.cell? ⟨g12, 3, none⟩ = some (.int .i64 x.f3) := (blk_cell BKg12.out 3).trans rfl
    have hfg12_3 := blk_frozen BKg12.out 3
    have hcg12_4 : w21.cell? ⟨g12, 4, none⟩ = some (.int .i64 x.f4) := (blk_cell BKg12.out 4).trans rfl
    have hfg12_4 := blk_frozen BKg12.out 4
    have hcg12_5 : w21.cell? ⟨g12, 5, none⟩ = some (.slice A5 x.f5.length c5) := (blk_cell BKg12.out 5).trans rfl
    have hfg12_5 := blk_frozen BKg12.out 5
    clear q0 q1 q2 q3 q4 q5 b1 b2 b3
    obtain ⟨⟨xs, er⟩, hR⟩ : ∃ R, readL g.length d x.f1 x.f2 x.f3 s = R := ⟨_, rfl⟩
    have HR := Aside0.mk hR
    have HXL := Aside0.mk (readL_len HSt.out.fit hR)
    clear hR
    have tok18 : True := trivial
    go_wp2_with (first | (have _ := tok18; go_at_call 21; (with_reducible refine (DReadA_any x.f1 x.f2 x.f3 xs er HSt.out.fit HR.out (DR.fresh HDR.out (by repeat (first | exact HB.out | apply below_alloc | apply pw_below_drewN | apply below_drew1)))).mono ?_); rintro e w22 ⟨⟨A8, c8, rfl, hc8, hw8⟩, hb⟩; (try clear hcg12_0 hfg12_0 hcg12_1 hfg12_1 hcg12_2 hfg12_2 hcg12_3 hfg12_3 hcg12_4 hfg12_4 hcg12_5 hfg12_5); have hs : Below w21.heap.size w21 w22 := below_step (by repeat (first | exact Below.refl _ _ | apply below_alloc | apply pw_below_drewN | apply below_drew1)) hb; have hl : w21.heap.size ≤ _ := below_size (w := w21) (by repeat (first | exact Below.refl _ _ | apply below_alloc | apply pw_below_drewN | apply below_drew1)); have SZ22 := Aside0.mk (show w21.heap.size ≤ w22.heap.size from hs.size); replace BKg12 := bb BKg12 hs; have HC8 := Aside0.mk (hc8); have HW8 := Aside0.mk (hw8); replace HB := hbs HB hs; clear hc8 hw8; clear hb hs; (try clear hl); have hcg12_0 : w22.cell? ⟨g12, 0, none⟩ = some (.int .u8 x.f0) := (blk_cell BKg12.out 0).trans rfl; have hfg12_0 := blk_frozen BKg12.out 0; have hcg12_1 : w22.cell? ⟨g12, 1, none⟩ = some (.int .i64 x.f1) := (blk_cell BKg12.out 1).trans rfl; have hfg12_1 := blk_frozen BKg12.out 1; have hcg12_2 : w22.cell? ⟨g12, 2, none⟩ = some (.int .i64 x.f2) := (blk_cell BKg12.out 2).trans rfl; have hfg12_2 := blk_frozen BKg12.out 2; have hcg12_3 : w22.cell? ⟨g12, 3, none⟩ = some (.int .i64 x.f3) := (blk_cell BKg12.out 3).trans rfl; have hfg12_3 := blk_frozen BKg12.out 3; have hcg12_4 : w22.cell? ⟨g12, 4, none⟩ = some (.int .i64 x.f4) := (blk_cell BKg12.out 4).trans rfl; have hfg12_4 := blk_frozen BKg12.out 4; have hcg12_5 : w22.cell? ⟨g12, 5, none⟩ = some (.slice A5 x.f5.length c5) := (blk_cell BKg12.out 5).trans rfl; have hfg12_5 := blk_frozen BKg12.out 5; clear tok18; have tok19 : True := trivial) | (have _ := tok19; go_at_call 35; (with_reducible refine (DReadB_any x.f1 x.f2 x.f3 xs er HSt.out.fit HSt.out.bytes HR.out (DR.fresh HDR.out (by repeat (first | exact HB.out | apply below_alloc | apply pw_below_drewN | apply below_drew1)))).mono ?_); rintro e w23 ⟨⟨A9, c9, rfl, hc9⟩, hb⟩; (try clear hcg12_0 hfg12_0 hcg12_1 hfg12_1 hcg12_2 hfg12_2 hcg12_3 hfg12_3 hcg12_4 hfg12_4 hcg12_5 hfg12_5); have hs : Below w22.heap.size w22 w23 := below_step (by repeat (first | exact Below.refl _ _ | apply below_alloc | apply pw_below_drewN | apply below_drew1)) hb; have hl : w22.heap.size ≤ _ := below_size (w := w22) (by repeat (first | exact Below.refl _ _ | apply below_alloc | apply pw_below_drewN | apply below_drew1)); have SZ23 := Aside0.mk (show w22.heap.size ≤ w23.heap.size from hs.size); replace BKg12 := bb BKg12 hs; replace HC8 := Aside0.mk (Kd.C_below HC8.out hs); replace HW8 := Aside0.mk (HW8.out.below hs); have HC9 := Aside0.mk (hc9); replace HB := hbs HB hs; clear hc9; have hcvA := Kd.C_string (P := Try.prog) (A := A8) (c := c8) Try.underlying45 Try.underlying5 Try.underlying9 HC8.out; have hcvB := Kd.C_string (P := Try.prog) (A := A9) (c := c9) Try.underlying45 Try.underlying5 Try.underlying9 HC9.out; clear hb hs; (try clear hl); have hcg12_0 : w23.cell? ⟨g12, 0, none⟩ = some (.int .u8 x.f0) := (blk_cell BKg12.out 0).trans rfl; have hfg12_0 := blk_frozen BKg12.out 0; have hcg12_1 : w23.cell? ⟨g12, 1, none⟩ = some (.int .i64 x.f1) := (blk_cell BKg12.out 1).trans rfl; have hfg12_1 := blk_frozen BKg12.out 1; have hcg12_2 : w23.cell? ⟨g12, 2, none⟩ = some (.int .i64 x.f2) := (blk_cell BKg12.out 2).trans rfl; have hfg12_2 := blk_frozen BKg12.out 2; have hcg12_3 : w23.cell? ⟨g12, 3, none⟩ = some (.int .i64 x.f3) := (blk_cell BKg12.out 3).trans rfl; have hfg12_3 := blk_frozen BKg12.out 3; have hcg12_4 : w23.cell? ⟨g12, 4, none⟩ = some (.int .i64 x.f4) := (blk_cell BKg12.out 4).trans rfl; have hfg12_4 := blk_frozen BKg12.out 4; have hcg12_5 : w23.cell? ⟨g12, 5, none⟩ = some (.slice A5 x.f5.length c5) := (blk_cell BKg12.out 5).trans rfl; have hfg12_5 := blk_frozen BKg12.out 5; clear tok19))
    (try clear hcg12_0 hfg12_0 hcg12_1 hfg12_1 hcg12_2 hfg12_2 hcg12_3 hfg12_3 hcg12_4 hfg12_4 hcg12_5 hfg12_5)
    clear BKg12
    have q0_ := SZ12.out
    have q1_ := SZ21.out
    have q2_ := SZ22.out
    have q3_ := SZ23.out
    have HDX := Aside0.mk (DR.fresh HDR.out HB.out)
    skip
    clear q0_ q1_ q2_ q3_
    have q0_ := SZ12.out
    have q1_ := SZ21.out
    have q2_ := SZ22.out
    have q3_ := SZ23.out
    have HLO := Aside0.mk (show wo.heap.size ≤ w21.heap.size by omega)
    have HHI := Aside0.mk (show w22.heap.size ≤ w23.heap.size by omega)
    clear q0_ q1_ q2_ q3_
    clear hcvA hcvB HC8 HC9
    have HWO := Aside0.mk (HDR.out.below.size)
    go_loopg [24] xs.length (fun kq v24 wr => ∃ q : Nat, v24 = .int .i64 (q : Int) ∧ Aside0 (q ≤ xs.length ∧ xs.length - q ≤ kq) ∧ Aside0 (DR w wr (Iv wo.heap.size w23.heap.size) a b c d DA DB g s g s) ∧ Aside0 (Wb wr (Iv w21.heap.size w22.heap.size) (.slice A8 xs.length c8) xs.length))
    case atStart => exact ⟨0, rfl, Aside0.mk ⟨by omega, by omega⟩, HDX, HW8⟩
    case round =>
     clear HDX HW8 HB
     obtain ⟨q, rfl, AQ, HDX, HW8⟩ := hrel
     by_cases hq : q < xs.length
     ·
      obtain ⟨gq, rfl⟩ := Wb.some HW8.out (by omega)
      obtain ⟨⟨b_, hcq⟩, hfq, hokg⟩ := Wb.cell HW8.out hq
      have i1 : decide ((q : Int) < (xs.length : Int)) = true := decide_eq_true (by omega)
      have i2 : decide (q < xs.length) = true := decide_eq_true hq
      have i3 : (q < xs.length) = True := eq_true hq
      have HQ := Aside0.mk hq
      clear hq hokg
      go_wp2_with (fail)
      have haq := AQ.out
      have hqq := HQ.out
      have hxl := HXL.out
      go_roundg (gk - 1)
      case measure => omega
      case rel => exact ⟨q + 1, by rw [show wrap64 ((q : Int) + 1) = ((q + 1 : Nat) : Int) by unfold wrap64; omega], Aside0.mk ⟨by omega, by omega⟩, Aside0.mk (HDX.out.set HW8.out hqq (fun k_ hk_ => ⟨Iv_sub HLO.out HHI.out k_ hk_, Nat.le_trans HWO.out (Nat.le_trans HLO.out hk_.1)⟩) _), Aside0.mk (HW8.out.set gq q _)⟩
     ·
      have i1 : decide ((q : Int) < (xs.length : Int)) = false := decide_eq_false (by omega)
      have i2 : decide (q < xs.length) = false := decide_eq_false hq
      have i3 : (q < xs.length) = False := eq_false hq
      clear hq
      have HB := Aside0.mk (Below.refl wr.heap.size wr)
      have HS2 := Aside0.mk (show St a b c d g s (i + 1) from HSt.out.next)
      have tok20 : True := trivial
      go_wp2_with (first | (have _ := tok20; go_at_call 12; (with_reducible refine (DSame HS2.out.fit (DR.step_ HDX.out (by repeat (first | exact Below.refl _ _ | apply below_alloc | apply pw_below_drewN | apply below_drew1)))).mono ?_); rintro e w24 ⟨rfl, hb⟩; have hs : Below wr.heap.size wr w24 := below_step (by repeat (first | exact Below.refl _ _ | apply below_alloc | apply pw_below_drewN | apply below_drew1)) hb; have hl : wr.heap.size ≤ _ := below_size (w := wr) (by repeat (first | exact Below.refl _ _ | apply below_alloc | apply pw_below_drewN | apply below_drew1)); have SZ24 := Aside0.mk (show wr.heap.size ≤ w24.heap.size from hs.size); replace HDX := Aside0.mk (DR.step_ HDX.out hs); replace HB := hbs HB hs; clear hb hs; (try clear hl); clear tok20))
      go_wp2_with (fail)
      have hax := AX.out
      have hlt_ := HLT.out
      have hl40 := HLEN.out
      go_roundg (gko - 1)
      case measure => rw [← hgko]; omega
      case rel => exact ⟨i + 1, _, _, by rw [show wrap64 ((i : Int) + 1) = ((i + 1 : Nat) : Int) by unfold wrap64; omega], Aside0.mk ⟨by omega, by omega⟩, Aside0.mk HDX.out.last, HS2⟩
   ·
    skip
    (try clear hcg12_0 hfg12_0 hcg12_1 hfg12_1 hcg12_2 hfg12_2 hcg12_3 hfg12_3 hcg12_4 hfg12_4 hcg12_5 hfg12_5)
    have q0_ := SZ12.out
    generalize hw : ((((((w12.setCell ⟨g12, 0, none⟩ (.int .u8 x.f0)).setCell ⟨g12, 1, none⟩ (.int .i64 x.f1)).setCell ⟨g12, 2, none⟩ (.int .i64 x.f2)).setCell ⟨g12, 3, none⟩ (.int .i64 x.f3)).setCell ⟨g12, 4, none⟩ (.int .i64 x.f4)).setCell ⟨g12, 5, none⟩ (.slice A5 x.f5.length c5)) = w25
    have hs : Kept w12 w25 (Iv g12 (g12 + 1)) := by rw [← hw]; exact kput (kput (kput (kput (kput (kput (Kept.refl _ _))))))
    replace BKg12 : Aside0 (w25.heap[g12]? = some (.cells #[.int .u8 x.f0, .int .i64 x.f1, .int .i64 x.f2, .int .i64 x.f3, .int .i64 x.f4, .slice A5 x.f5.length c5] 69 (0, 0))) := ⟨by rw [← hw]; exact blk_put (blk_put (blk_put (blk_put (blk_put (blk_put (BKg12.out) 0 _ rfl) 1 _ rfl) 2 _ rfl) 3 _ rfl) 4 _ rfl) 5 _ rfl⟩
    have hq : wo.heap.size ≤ g12 := (by omega)
    replace HB : Aside0 (Below wo.heap.size wo w25) := ⟨by rw [← hw]; exact below_set (below_set (below_set (below_set (below_set (below_set (HB.out) hq) hq) hq) hq) hq) hq⟩
    have SZ25 := Aside0.mk (show w12.heap.size ≤ w25.heap.size from hs.1)
    clear q0_
    clear hs hw hq
    have hcg12_0 : w25.cell? ⟨g12, 0, none⟩ = some (.int .u8 x.f0) := (blk_cell BKg12.out 0).trans rfl
    have hfg12_0 := blk_frozen BKg12.out 0
    have hcg12_1 : w25.cell? ⟨g12, 1, none⟩ = some (.int .i64 x.f1) := (blk_cell BKg12.out 1).trans rfl
    have hfg12_1 := blk_frozen BKg12.out 1
    have hcg12_2 : w25.cell? ⟨g12, 2, none⟩ = some (.int .i64 x.f2) := (blk_cell BKg12.out 2).trans rfl
    have hfg12_2 := blk_frozen BKg12.out 2
    have hcg12_3 : w25.cell? ⟨g12, 3, none⟩ = some (.int .i64 x.f3) := (blk_cell BKg12.out 3).trans rfl
    have hfg12_3 := blk_frozen BKg12.out 3
    have hcg12_4 : w25.cell? ⟨g12, 4, none⟩ = some (.int .i64 x.f4) := (blk_cell BKg12.out 4).trans rfl
    have hfg12_4 := blk_frozen BKg12.out 4
    have hcg12_5 : w25.cell? ⟨g12, 5, none⟩ = some (.slice A5 x.f5.length c5) := (blk_cell BKg12.out 5).trans rfl
    have hfg12_5 := blk_frozen BKg12.out 5
    clear q0 q1 q2 q3 q4 q5 b1 b2 b3
    obtain ⟨y, hy⟩ : ∃ y, y = atOf g.length d x.f1 0 0 := ⟨_, rfl⟩
    by_cases hy0 : y < 0
    ·
     have HY := Aside0.mk (show atOf g.length d x.f1 0 0 < 0 by rw [← hy]; exact hy0)
     clear hy hy0
     have q0_ := SZ12.out
     have q1_ := SZ25.out
     have HDX := Aside0.mk (DR.fresh HDR.out HB.out)
     have HIX := Aside0.mk (show Iv wo.heap.size w25.heap.size g12 from ⟨by omega, by omega⟩)
     clear q0_ q1_
     have tok21 : True := trivial
     go_wp2_with (first | (have _ := tok21; go_at_call 24; (with_reducible refine (DWipeA_bad x.f1 HSt.out.fit HY.out (DR.step_ HDX.out (by repeat (first | exact Below.refl _ _ | apply below_alloc | apply pw_below_drewN | apply below_drew1)))).mono ?_); rintro e w26 ⟨rfl, hb⟩; (try clear hcg12_0 hfg12_0 hcg12_1 hfg12_1 hcg12_2 hfg12_2 hcg12_3 hfg12_3 hcg12_4 hfg12_4 hcg12_5 hfg12_5); have hs : Below w25.heap.size w25 w26 := below_step (by repeat (first | exact Below.refl _ _ | apply below_alloc | apply pw_below_drewN | apply below_drew1)) hb; have hl : w25.heap.size ≤ _ := below_size (w := w25) (by repeat (first | exact Below.refl _ _ | apply below_alloc | apply pw_below_drewN | apply below_drew1)); have SZ26 := Aside0.mk (show w25.heap.size ≤ w26.heap.size from hs.size); replace BKg12 := bb BKg12 hs; replace HDX := Aside0.mk (DR.step_ HDX.out hs); replace HB := hbs HB hs; clear hb hs; (try clear hl); have hcg12_0 : w26.cell? ⟨g12, 0, none⟩ = some (.int .u8 x.f0) := (blk_cell BKg12.out 0).trans rfl; have hfg12_0 := blk_frozen BKg12.out 0; have hcg12_1 : w26.cell? ⟨g12, 1, none⟩ = some (.int .i64 x.f1) := (blk_cell BKg12.out 1).trans rfl; have hfg12_1 := blk_frozen BKg12.out 1; have hcg12_2 : w26.cell? ⟨g12, 2, none⟩ = some (.int .i64 x.f2) := (blk_cell BKg12.out 2).trans rfl; have hfg12_2 := blk_frozen BKg12.out 2; have hcg12_3 : w26.cell? ⟨g12, 3, none⟩ = some (.int .i64 x.f3) := (blk_cell BKg12.out 3).trans rfl; have hfg12_3 := blk_frozen BKg12.out 3; have hcg12_4 : w26.cell? ⟨g12, 4, none⟩ = some (.int .i64 x.f4) := (blk_cell BKg12.out 4).trans rfl; have hfg12_4 := blk_frozen BKg12.out 4; have hcg12_5 : w26.cell? ⟨g12, 5, none⟩ = some (.slice A5 x.f5.length c5) := (blk_cell BKg12.out 5).trans rfl; have hfg12_5 := blk_frozen BKg12.out 5; clear tok21; have tok22 : True := trivial) | (have _ := tok22; go_at_call 36; (with_reducible refine (DWipeB_bad x.f1 HSt.out.fit HY.out (DR.step_ HDX.out (by repeat (first | exact Below.refl _ _ | apply below_alloc | apply pw_below_drewN | apply below_drew1)))).mono ?_); rintro e w27 ⟨rfl, hb⟩; (try clear hcg12_0 hfg12_0 hcg12_1 hfg12_1 hcg12_2 hfg12_2 hcg12_3 hfg12_3 hcg12_4 hfg12_4 hcg12_5 hfg12_5); have hs : Below w26.heap.size w26 w27 := below_step (by repeat (first | exact Below.refl _ _ | apply below_alloc | apply pw_below_drewN | apply below_drew1)) hb; have hl : w26.heap.size ≤ _ := below_size (w := w26) (by repeat (first | exact Below.refl _ _ | apply below_alloc | apply pw_below_drewN | apply below_drew1)); have SZ27 := Aside0.mk (show w26.heap.size ≤ w27.heap.size from hs.size); replace BKg12 := bb BKg12 hs; replace HDX := Aside0.mk (DR.step_ HDX.out hs); replace HB := hbs HB hs; clear hb hs; (try clear hl); have hcg12_0 : w27.cell? ⟨g12, 0, none⟩ = some (.int .u8 x.f0) := (blk_cell BKg12.out 0).trans rfl; have hfg12_0 := blk_frozen BKg12.out 0; have hcg12_1 : w27.cell? ⟨g12, 1, none⟩ = some (.int .i64 x.f1) := (blk_cell BKg12.out 1).trans rfl; have hfg12_1 := blk_frozen BKg12.out 1; have hcg12_2 : w27.cell? ⟨g12, 2, none⟩ = some (.int .i64 x.f2) := (blk_cell BKg12.out 2).trans rfl; have hfg12_2 := blk_frozen BKg12.out 2; have hcg12_3 : w27.cell? ⟨g12, 3, none⟩ = some (.int .i64 x.f3) := (blk_cell BKg12.out 3).trans rfl; have hfg12_3 := blk_frozen BKg12.out 3; have hcg12_4 : w27.cell? ⟨g12, 4, none⟩ = some (.int .i64 x.f4) := (blk_cell BKg12.out 4).trans rfl; have hfg12_4 := blk_frozen BKg12.out 4; have hcg12_5 : w27.cell? ⟨g12, 5, none⟩ = some (.slice A5 x.f5.length c5) := (blk_cell BKg12.out 5).trans rfl; have hfg12_5 := blk_frozen BKg12.out 5; clear tok22))
     (try clear hcg12_0 hfg12_0 hcg12_1 hfg12_1 hcg12_2 hfg12_2 hcg12_3 hfg12_3 hcg12_4 hfg12_4 hcg12_5 hfg12_5)
     clear BKg12
     have HS2 := Aside0.mk (show St a b c d g s (i + 1) from HSt.out.next)
     have tok23 : True := trivial
     go_wp2_with (first | (have _ := tok23; go_at_call 12; (with_reducible refine (DSame HS2.out.fit (DR.step_ HDX.out (by repeat (first | exact Below.refl _ _ | apply below_alloc | apply pw_below_drewN | apply below_drew1)))).mono ?_); rintro e w28 ⟨rfl, hb⟩; have hs : Below w27.heap.size w27 w28 := below_step (by repeat (first | exact Below.refl _ _ | apply below_alloc | apply pw_below_drewN | apply below_drew1)) hb; have hl : w27.heap.size ≤ _ := below_size (w := w27) (by repeat (first | exact Below.refl _ _ | apply below_alloc | apply pw_below_drewN | apply below_drew1)); have SZ28 := Aside0.mk (show w27.heap.size ≤ w28.heap.size from hs.size); replace HDX := Aside0.mk (DR.step_ HDX.out hs); replace HB := hbs HB hs; clear hb hs; (try clear hl); clear tok23))
     go_wp2_with (fail)
     have hax := AX.out
     have hlt_ := HLT.out
     have hl40 := HLEN.out
     go_roundg (gko - 1)
     case measure => rw [← hgko]; omega
     case rel => exact ⟨i + 1, _, _, by rw [show wrap64 ((i : Int) + 1) = ((i + 1 : Nat) : Int) by unfold wrap64; omega], Aside0.mk ⟨by omega, by omega⟩, Aside0.mk HDX.out.last, HS2⟩
    ·
     obtain ⟨p, hp⟩ : ∃ p : Nat, y = (p : Int) := ⟨y.toNat, by omega⟩
     have HY := Aside0.mk (show atOf g.length d x.f1 0 0 = (p : Int) by rw [← hy]; exact hp)
     clear hy hy0 hp
     have q0_ := SZ12.out
     have q1_ := SZ25.out
     have HDX := Aside0.mk (DR.fresh HDR.out HB.out)
     have HIX := Aside0.mk (show Iv wo.heap.size w25.heap.size g12 from ⟨by omega, by omega⟩)
     clear q0_ q1_
     have tok24 : True := trivial
     go_wp2_with (first | (have _ := tok24; go_at_call 24; (with_reducible refine (DWipeA x.f1 p HSt.out.fit HY.out (DR.step_ HDX.out (by repeat (first | exact Below.refl _ _ | apply below_alloc | apply pw_below_drewN | apply below_drew1)))).mono ?_); rintro e w29 ⟨rfl, hd, hX⟩; (try clear hcg12_0 hfg12_0 hcg12_1 hfg12_1 hcg12_2 hfg12_2 hcg12_3 hfg12_3 hcg12_4 hfg12_4 hcg12_5 hfg12_5); replace HDX := Aside0.mk hd; replace BKg12 := Aside0.mk (kw_X BKg12.out hX HIX.out); clear hd hX; replace HB := Aside0.mk (Below.refl w29.heap.size w29); have hcg12_0 : w29.cell? ⟨g12, 0, none⟩ = some (.int .u8 x.f0) := (blk_cell BKg12.out 0).trans rfl; have hfg12_0 := blk_frozen BKg12.out 0; have hcg12_1 : w29.cell? ⟨g12, 1, none⟩ = some (.int .i64 x.f1) := (blk_cell BKg12.out 1).trans rfl; have hfg12_1 := blk_frozen BKg12.out 1; have hcg12_2 : w29.cell? ⟨g12, 2, none⟩ = some (.int .i64 x.f2) := (blk_cell BKg12.out 2).trans rfl; have hfg12_2 := blk_frozen BKg12.out 2; have hcg12_3 : w29.cell? ⟨g12, 3, none⟩ = some (.int .i64 x.f3) := (blk_cell BKg12.out 3).trans rfl; have hfg12_3 := blk_frozen BKg12.out 3; have hcg12_4 : w29.cell? ⟨g12, 4, none⟩ = some (.int .i64 x.f4) := (blk_cell BKg12.out 4).trans rfl; have hfg12_4 := blk_frozen BKg12.out 4; have hcg12_5 : w29.cell? ⟨g12, 5, none⟩ = some (.slice A5 x.f5.length c5) := (blk_cell BKg12.out 5).trans rfl; have hfg12_5 := blk_frozen BKg12.out 5; clear tok24; have tok25 : True := trivial) | (have _ := tok25; go_at_call 36; (with_reducible refine (DWipeB x.f1 p HSt.out.fit HY.out (DR.step_ HDX.out (by repeat (first | exact Below.refl _ _ | apply below_alloc | apply pw_below_drewN | apply below_drew1)))).mono ?_); rintro e w30 ⟨rfl, hd, hX⟩; (try clear hcg12_0 hfg12_0 hcg12_1 hfg12_1 hcg12_2 hfg12_2 hcg12_3 hfg12_3 hcg12_4 hfg12_4 hcg12_5 hfg12_5); replace HDX := Aside0.mk hd; replace BKg12 := Aside0.mk (kw_X BKg12.out hX HIX.out); clear hd hX; replace HB := Aside0.mk (Below.refl w30.heap.size w30); have hcg12_0 : w30.cell? ⟨g12, 0, none⟩ = some (.int .u8 x.f0) := (blk_cell BKg12.out 0).trans rfl; have hfg12_0 := blk_frozen BKg12.out 0; have hcg12_1 : w30.cell? ⟨g12, 1, none⟩ = some (.int .i64 x.f1) := (blk_cell BKg12.out 1).trans rfl; have hfg12_1 := blk_frozen BKg12.out 1; have hcg12_2 : w30.cell? ⟨g12, 2, none⟩ = some (.int .i64 x.f2) := (blk_cell BKg12.out 2).trans rfl; have hfg12_2 := blk_frozen BKg12.out 2; have hcg12_3 : w30.cell? ⟨g12, 3, none⟩ = some (.int .i64 x.f3) := (blk_cell BKg12.out 3).trans rfl; have hfg12_3 := blk_frozen BKg12.out 3; have hcg12_4 : w30.cell? ⟨g12, 4, none⟩ = some (.int .i64 x.f4) := (blk_cell BKg12.out 4).trans rfl; have hfg12_4 := blk_frozen BKg12.out 4; have hcg12_5 : w30.cell? ⟨g12, 5, none⟩ = some (.slice A5 x.f5.length c5) := (blk_cell BKg12.out 5).trans rfl; have hfg12_5 := blk_frozen BKg12.out 5; clear tok25))
     (try clear hcg12_0 hfg12_0 hcg12_1 hfg12_1 hcg12_2 hfg12_2 hcg12_3 hfg12_3 hcg12_4 hfg12_4 hcg12_5 hfg12_5)
     clear BKg12
     have HS2 := Aside0.mk (show St a b c d (g.set x.f1.toNat true) ⟨wipeF [] s.slots p (2 * d.toNat), s.off, s.cut, s.wr⟩ (i + 1) from HSt.out.wipe p _ _)
     have tok26 : True := trivial
     go_wp2_with (first | (have _ := tok26; go_at_call 12; (with_reducible refine (DSame HS2.out.fit (DR.step_ HDX.out (by repeat (first | exact Below.refl _ _ | apply below_alloc | apply pw_below_drewN | apply below_drew1)))).mono ?_); rintro e w31 ⟨rfl, hb⟩; have hs : Below w30.heap.size w30 w31 := below_step (by repeat (first | exact Below.refl _ _ | apply below_alloc | apply pw_below_drewN | apply below_drew1)) hb; have hl : w30.heap.size ≤ _ := below_size (w := w30) (by repeat (first | exact Below.refl _ _ | apply below_alloc | apply pw_below_drewN | apply below_drew1)); have SZ31 := Aside0.mk (show w30.heap.size ≤ w31.heap.size from hs.size); replace HDX := Aside0.mk (DR.step_ HDX.out hs); replace HB := hbs HB hs; clear hb hs; (try clear hl); clear tok26))
     go_wp2_with (fail)
     have hax := AX.out
     have hlt_ := HLT.out
     have hl40 := HLEN.out
     go_roundg (gko - 1)
     case measure => rw [← hgko]; omega
     case rel => exact ⟨i + 1, _, _, by rw [show wrap64 ((i : Int) + 1) = ((i + 1 : Nat) : Int) by unfold wrap64; omega], Aside0.mk ⟨by omega, by omega⟩, Aside0.mk HDX.out.last, HS2⟩
   ·
    skip
    (try clear hcg12_0 hfg12_0 hcg12_1 hfg12_1 hcg12_2 hfg12_2 hcg12_3 hfg12_3 hcg12_4 hfg12_4 hcg12_5 hfg12_5)
    have q0_ := SZ12.out
    generalize hw : ((((((w12.setCell ⟨g12, 0, none⟩ (.int .u8 x.f0)).setCell ⟨g12, 1, none⟩ (.int .i64 x.f1)).setCell ⟨g12, 2, none⟩ (.int .i64 x.f2)).setCell ⟨g12, 3, none⟩ (.int .i64 x.f3)).setCell ⟨g12, 4, none⟩ (.int .i64 x.f4)).setCell ⟨g12, 5, none⟩ (.slice A5 x.f5.length c5)) = w32
    have hs : Kept w12 w32 (Iv g12 (g12 + 1)) := by rw [← hw]; exact kput (kput (kput (kput (kput (kput (Kept.refl _ _))))))
    replace BKg12 : Aside0 (w32.heap[g12]? = some (.cells #[.int .u8 x.f0, .int .i64 x.f1, .int .i64 x.f2, .int .i64 x.f3, .int .i64 x.f4, .slice A5 x.f5.length c5] 69 (0, 0))) := ⟨by rw [← hw]; exact blk_put (blk_put (blk_put (blk_put (blk_put (blk_put (BKg12.out) 0 _ rfl) 1 _ rfl) 2 _ rfl) 3 _ rfl) 4 _ rfl) 5 _ rfl⟩
    have hq : wo.heap.size ≤ g12 := (by omega)
    replace HB : Aside0 (Below wo.heap.size wo w32) := ⟨by rw [← hw]; exact below_set (below_set (below_set (below_set (below_set (below_set (HB.out) hq) hq) hq) hq) hq) hq⟩
    have SZ32 := Aside0.mk (show w12.heap.size ≤ w32.heap.size from hs.1)
    clear q0_
    clear hs hw hq
    have hcg12_0 : w32.cell? ⟨g12, 0, none⟩ = some (.int .u8 x.f0) := (blk_cell BKg12.out 0).trans rfl
    have hfg12_0 := blk_frozen BKg12.out 0
    have hcg12_1 : w32.cell? ⟨g12, 1, none⟩ = some (.int .i64 x.f1) := (blk_cell BKg12.out 1).trans rfl
    have hfg12_1 := blk_frozen BKg12.out 1
    have hcg12_2 : w32.cell? ⟨g12, 2, none⟩ = some (.int .i64 x.f2) := (blk_cell BKg12.out 2).trans rfl
    have hfg12_2 := blk_frozen BKg12.out 2
    have hcg12_3 : w32.cell? ⟨g12, 3, none⟩ = some (.int .i64 x.f3) := (blk_cell BKg12.out 3).trans rfl
    have hfg12_3 := blk_frozen BKg12.out 3
    have hcg12_4 : w32.cell? ⟨g12, 4, none⟩ = some (.int .i64 x.f4) := (blk_cell BKg12.out 4).trans rfl
    have hfg12_4 := blk_frozen BKg12.out 4
    have hcg12_5 : w32.cell? ⟨g12, 5, none⟩ = some (.slice A5 x.f5.length c5) := (blk_cell BKg12.out 5).trans rfl
    have hfg12_5 := blk_frozen BKg12.out 5
    clear q0 q1 q2 q3 q4 q5 b1 b2 b3
    by_cases hy0 : x.f4 < 0
    ·
     have HY := Aside0.mk hy0
     clear hy0
     have q0_ := SZ12.out
     have q1_ := SZ32.out
     have HDX := Aside0.mk (DR.fresh HDR.out HB.out)
     have HIX := Aside0.mk (show Iv wo.heap.size w32.heap.size g12 from ⟨by omega, by omega⟩)
     clear q0_ q1_
     have tok27 : True := trivial
     go_wp2_with (first | (have _ := tok27; go_at_call 16; (with_reducible refine (DCutA_less x.f4 HY.out (DR.step_ HDX.out (by repeat (first | exact Below.refl _ _ | apply below_alloc | apply pw_below_drewN | apply below_drew1)))).mono ?_); rintro e w33 ⟨rfl, hb⟩; (try clear hcg12_0 hfg12_0 hcg12_1 hfg12_1 hcg12_2 hfg12_2 hcg12_3 hfg12_3 hcg12_4 hfg12_4 hcg12_5 hfg12_5); have hs : Below w32.heap.size w32 w33 := below_step (by repeat (first | exact Below.refl _ _ | apply below_alloc | apply pw_below_drewN | apply below_drew1)) hb; have hl : w32.heap.size ≤ _ := below_size (w := w32) (by repeat (first | exact Below.refl _ _ | apply below_alloc | apply pw_below_drewN | apply below_drew1)); have SZ33 := Aside0.mk (show w32.heap.size ≤ w33.heap.size from hs.size); replace BKg12 := bb BKg12 hs; replace HDX := Aside0.mk (DR.step_ HDX.out hs); replace HB := hbs HB hs; clear hb hs; (try clear hl); have hcg12_0 : w33.cell? ⟨g12, 0, none⟩ = some (.int .u8 x.f0) := (blk_cell BKg12.out 0).trans rfl; have hfg12_0 := blk_frozen BKg12.out 0; have hcg12_1 : w33.cell? ⟨g12, 1, none⟩ = some (.int .i64 x.f1) := (blk_cell BKg12.out 1).trans rfl; have hfg12_1 := blk_frozen BKg12.out 1; have hcg12_2 : w33.cell? ⟨g12, 2, none⟩ = some (.int .i64 x.f2) := (blk_cell BKg12.out 2).trans rfl; have hfg12_2 := blk_frozen BKg12.out 2; have hcg12_3 : w33.cell? ⟨g12, 3, none⟩ = some (.int .i64 x.f3) := (blk_cell BKg12.out 3).trans rfl; have hfg12_3 := blk_frozen BKg12.out 3; have hcg12_4 : w33.cell? ⟨g12, 4, none⟩ = some (.int .i64 x.f4) := (blk_cell BKg12.out 4).trans rfl; have hfg12_4 := blk_frozen BKg12.out 4; have hcg12_5 : w33.cell? ⟨g12, 5, none⟩ = some (.slice A5 x.f5.length c5) := (blk_cell BKg12.out 5).trans rfl; have hfg12_5 := blk_frozen BKg12.out 5; clear tok27; have tok28 : True := trivial) | (have _ := tok28; go_at_call 37; (with_reducible refine (DSetCutB_less x.f4 HY.out (DR.step_ HDX.out (by repeat (first | exact Below.refl _ _ | apply below_alloc | apply pw_below_drewN | apply below_drew1)))).mono ?_); rintro e w34 ⟨rfl, hb⟩; (try clear hcg12_0 hfg12_0 hcg12_1 hfg12_1 hcg12_2 hfg12_2 hcg12_3 hfg12_3 hcg12_4 hfg12_4 hcg12_5 hfg12_5); have hs : Below w33.heap.size w33 w34 := below_step (by repeat (first | exact Below.refl _ _ | apply below_alloc | apply pw_below_drewN | apply below_drew1)) hb; have hl : w33.heap.size ≤ _ := below_size (w := w33) (by repeat (first | exact Below.refl _ _ | apply below_alloc | apply pw_below_drewN | apply below_drew1)); have SZ34 := Aside0.mk (show w33.heap.size ≤ w34.heap.size from hs.size); replace BKg12 := bb BKg12 hs; replace HDX := Aside0.mk (DR.step_ HDX.out hs); replace HB := hbs HB hs; clear hb hs; (try clear hl); have hcg12_0 : w34.cell? ⟨g12, 0, none⟩ = some (.int .u8 x.f0) := (blk_cell BKg12.out 0).trans rfl; have hfg12_0 := blk_frozen BKg12.out 0; have hcg12_1 : w34.cell? ⟨g12, 1, none⟩ = some (.int .i64 x.f1) := (blk_cell BKg12.out 1).trans rfl; have hfg12_1 := blk_frozen BKg12.out 1; have hcg12_2 : w34.cell? ⟨g12, 2, none⟩ = some (.int .i64 x.f2) := (blk_cell BKg12.out 2).trans rfl; have hfg12_2 := blk_frozen BKg12.out 2; have hcg12_3 : w34.cell? ⟨g12, 3, none⟩ = some (.int .i64 x.f3) := (blk_cell BKg12.out 3).trans rfl; have hfg12_3 := blk_frozen BKg12.out 3; have hcg12_4 : w34.cell? ⟨g12, 4, none⟩ = some (.int .i64 x.f4) := (blk_cell BKg12.out 4).trans rfl; have hfg12_4 := blk_frozen BKg12.out 4; have hcg12_5 : w34.cell? ⟨g12, 5, none⟩ = some (.slice A5 x.f5.length c5) := (blk_cell BKg12.out 5).trans rfl; have hfg12_5 := blk_frozen BKg12.out 5; clear tok28))
     (try clear hcg12_0 hfg12_0 hcg12_1 hfg12_1 hcg12_2 hfg12_2 hcg12_3 hfg12_3 hcg12_4 hfg12_4 hcg12_5 hfg12_5)
     clear BKg12
     have HS2 := Aside0.mk (show St a b c d g s (i + 1) from HSt.out.next)
     have tok29 : True := trivial
     go_wp2_with (first | (have _ := tok29; go_at_call 12; (with_reducible refine (DSame HS2.out.fit (DR.step_ HDX.out (by repeat (first | exact Below.refl _ _ | apply below_alloc | apply pw_below_drewN | apply below_drew1)))).mono ?_); rintro e w35 ⟨rfl, hb⟩; have hs : Below w34.heap.size w34 w35 := below_step (by repeat (first | exact Below.refl _ _ | apply below_alloc | apply pw_below_drewN | apply below_drew1)) hb; have hl : w34.heap.size ≤ _ := below_size (w := w34) (by repeat (first | exact Below.refl _ _ | apply below_alloc | apply pw_below_drewN | apply below_drew1)); have SZ35 := Aside0.mk (show w34.heap.size ≤ w35.heap.size from hs.size); replace HDX := Aside0.mk (DR.step_ HDX.out hs); replace HB := hbs HB hs; clear hb hs; (try clear hl); clear tok29))
     go_wp2_with (fail)
     have hax := AX.out
     have hlt_ := HLT.out
     have hl40 := HLEN.out
     go_roundg (gko - 1)
     case measure => rw [← hgko]; omega
     case rel => exact ⟨i + 1, _, _, by rw [show wrap64 ((i : Int) + 1) = ((i + 1 : Nat) : Int) by unfold wrap64; omega], Aside0.mk ⟨by omega, by omega⟩, Aside0.mk HDX.out.last, HS2⟩
    ·
     have HY := Aside0.mk (Int.not_lt.mp hy0)
     clear hy0
     have q0_ := SZ12.out
     have q1_ := SZ32.out
     have HDX := Aside0.mk (DR.fresh HDR.out HB.out)
     have HIX := Aside0.mk (show Iv wo.heap.size w32.heap.size g12 from ⟨by omega, by omega⟩)
     clear q0_ q1_
     have tok30 : True := trivial
     go_wp2_with (first | (have _ := tok30; go_at_call 16; (with_reducible refine (DCutA x.f4 HY.out (DR.step_ HDX.out (by repeat (first | exact Below.refl _ _ | apply below_alloc | apply pw_below_drewN | apply below_drew1)))).mono ?_); rintro e w36 ⟨rfl, hd, hX⟩; (try clear hcg12_0 hfg12_0 hcg12_1 hfg12_1 hcg12_2 hfg12_2 hcg12_3 hfg12_3 hcg12_4 hfg12_4 hcg12_5 hfg12_5); replace HDX := Aside0.mk hd; replace BKg12 := Aside0.mk (kw_X BKg12.out hX HIX.out); clear hd hX; replace HB := Aside0.mk (Below.refl w36.heap.size w36); have hcg12_0 : w36.cell? ⟨g12, 0, none⟩ = some (.int .u8 x.f0) := (blk_cell BKg12.out 0).trans rfl; have hfg12_0 := blk_frozen BKg12.out 0; have hcg12_1 : w36.cell? ⟨g12, 1, none⟩ = some (.int .i64 x.f1) := (blk_cell BKg12.out 1).trans rfl; have hfg12_1 := blk_frozen BKg12.out 1; have hcg12_2 : w36.cell? ⟨g12, 2, none⟩ = some (.int .i64 x.f2) := (blk_cell BKg12.out 2).trans rfl; have hfg12_2 := blk_frozen BKg12.out 2; have hcg12_3 : w36.cell? ⟨g12, 3, none⟩ = some (.int .i64 x.f3) := (blk_cell BKg12.out 3).trans rfl; have hfg12_3 := blk_frozen BKg12.out 3; have hcg12_4 : w36.cell? ⟨g12, 4, none⟩ = some (.int .i64 x.f4) := (blk_cell BKg12.out 4).trans rfl; have hfg12_4 := blk_frozen BKg12.out 4; have hcg12_5 : w36.cell? ⟨g12, 5, none⟩ = some (.slice A5 x.f5.length c5) := (blk_cell BKg12.out 5).trans rfl; have hfg12_5 := blk_frozen BKg12.out 5; clear tok30; have tok31 : True := trivial) | (have _ := tok31; go_at_call 37; (with_reducible refine (DSetCutB x.f4 HY.out (DR.step_ HDX.out (by repeat (first | exact Below.refl _ _ | apply below_alloc | apply pw_below_drewN | apply below_drew1)))).mono ?_); rintro e w37 ⟨rfl, hd, hX⟩; (try clear hcg12_0 hfg12_0 hcg12_1 hfg12_1 hcg12_2 hfg12_2 hcg12_3 hfg12_3 hcg12_4 hfg12_4 hcg12_5 hfg12_5); replace HDX := Aside0.mk hd; replace BKg12 := Aside0.mk (kw_X BKg12.out hX HIX.out); clear hd hX; replace HB := Aside0.mk (Below.refl w37.heap.size w37); have hcg12_0 : w37.cell? ⟨g12, 0, none⟩ = some (.int .u8 x.f0) := (blk_cell BKg12.out 0).trans rfl; have hfg12_0 := blk_frozen BKg12.out 0; have hcg12_1 : w37.cell? ⟨g12, 1, none⟩ = some (.int .i64 x.f1) := (blk_cell BKg12.out 1).trans rfl; have hfg12_1 := blk_frozen BKg12.out 1; have hcg12_2 : w37.cell? ⟨g12, 2, none⟩ = some (.int .i64 x.f2) := (blk_cell BKg12.out 2).trans rfl; have hfg12_2 := blk_frozen BKg12.out 2; have hcg12_3 : w37.cell? ⟨g12, 3, none⟩ = some (.int .i64 x.f3) := (blk_cell BKg12.out 3).trans rfl; have hfg12_3 := blk_frozen BKg12.out 3; have hcg12_4 : w37.cell? ⟨g12, 4, none⟩ = some (.int .i64 x.f4) := (blk_cell BKg12.out 4).trans rfl; have hfg12_4 := blk_frozen BKg12.out 4; have hcg12_5 : w37.cell? ⟨g12, 5, none⟩ = some (.slice A5 x.f5.length c5) := (blk_cell BKg12.out 5).trans rfl; have hfg12_5 := blk_frozen BKg12.out 5; clear tok31))
     (try clear hcg12_0 hfg12_0 hcg12_1 hfg12_1 hcg12_2 hfg12_2 hcg12_3 hfg12_3 hcg12_4 hfg12_4 hcg12_5 hfg12_5)
     clear BKg12
     have HS2 := Aside0.mk (show St a b c d g ⟨s.slots, s.off, x.f4, s.wr⟩ (i + 1) from HSt.out.cut_ x.f4 HY.out HXW.out.1)
     have tok32 : True := trivial
     go_wp2_with (first | (have _ := tok32; go_at_call 12; (with_reducible refine (DSame HS2.out.fit (DR.step_ HDX.out (by repeat (first | exact Below.refl _ _ | apply below_alloc | apply pw_below_drewN | apply below_drew1)))).mono ?_); rintro e w38 ⟨rfl, hb⟩; have hs : Below w37.heap.size w37 w38 := below_step (by repeat (first | exact Below.refl _ _ | apply below_alloc | apply pw_below_drewN | apply below_drew1)) hb; have hl : w37.heap.size ≤ _ := below_size (w := w37) (by repeat (first | exact Below.refl _ _ | apply below_alloc | apply pw_below_drewN | apply below_drew1)); have SZ38 := Aside0.mk (show w37.heap.size ≤ w38.heap.size from hs.size); replace HDX := Aside0.mk (DR.step_ HDX.out hs); replace HB := hbs HB hs; clear hb hs; (try clear hl); clear tok32))
     go_wp2_with (fail)
     have hax := AX.out
     have hlt_ := HLT.out
     have hl40 := HLEN.out
     go_roundg (gko - 1)
     case measure => rw [← hgko]; omega
     case rel => exact ⟨i + 1, _, _, by rw [show wrap64 ((i : Int) + 1) = ((i + 1 : Nat) : Int) by unfold wrap64; omega], Aside0.mk ⟨by omega, by omega⟩, Aside0.mk HDX.out.last, HS2⟩
   ·
    skip
    (try clear hcg12_0 hfg12_0 hcg12_1 hfg12_1 hcg12_2 hfg12_2 hcg12_3 hfg12_3 hcg12_4 hfg12_4 hcg12_5 hfg12_5)
    have q0_ := SZ12.out
    generalize hw : ((((((w12.setCell ⟨g12, 0, none⟩ (.int .u8 x.f0)).setCell ⟨g12, 1, none⟩ (.int .i64 x.f1)).setCell ⟨g12, 2, none⟩ (.int .i64 x.f2)).setCell ⟨g12, 3, none⟩ (.int .i64 x.f3)).setCell ⟨g12, 4, none⟩ (.int .i64 x.f4)).setCell ⟨g12, 5, none⟩ (.slice A5 x.f5.length c5)) = w39
    have hs : Kept w12 w39 (Iv g12 (g12 + 1)) := by rw [← hw]; exact kput (kput (kput (kput (kput (kput (Kept.refl _ _))))))
    replace BKg12 : Aside0 (w39.heap[g12]? = some (.cells #[.int .u8 x.f0, .int .i64 x.f1, .int .i64 x.f2, .int .i64 x.f3, .int .i64 x.f4, .slice A5 x.f5.length c5] 69 (0, 0))) := ⟨by rw [← hw]; exact blk_put (blk_put (blk_put (blk_put (blk_put (blk_put (BKg12.out) 0 _ rfl) 1 _ rfl) 2 _ rfl) 3 _ rfl) 4 _ rfl) 5 _ rfl⟩
    have hq : wo.heap.size ≤ g12 := (by omega)
    replace HB : Aside0 (Below wo.heap.size wo w39) := ⟨by rw [← hw]; exact below_set (below_set (below_set (below_set (below_set (below_set (HB.out) hq) hq) hq) hq) hq) hq⟩
    have SZ39 := Aside0.mk (show w12.heap.size ≤ w39.heap.size from hs.1)
    clear q0_
    clear hs hw hq
    have hcg12_0 : w39.cell? ⟨g12, 0, none⟩ = some (.int .u8 x.f0) := (blk_cell BKg12.out 0).trans rfl
    have hfg12_0 := blk_frozen BKg12.out 0
    have hcg12_1 : w39.cell? ⟨g12, 1, none⟩ = some (.int .i64 x.f1) := (blk_cell BKg12.out 1).trans rfl
    have hfg12_1 := blk_frozen BKg12.out 1
    have hcg12_2 : w39.cell? ⟨g12, 2, none⟩ = some (.int .i64 x.f2) := (blk_cell BKg12.out 2).trans rfl
    have hfg12_2 := blk_frozen BKg12.out 2
    have hcg12_3 : w39.cell? ⟨g12, 3, none⟩ = some (.int .i64 x.f3) := (blk_cell BKg12.out 3).trans rfl
    have hfg12_3 := blk_frozen BKg12.out 3
    have hcg12_4 : w39.cell? ⟨g12, 4, none⟩ = some (.int .i64 x.f4) := (blk_cell BKg12.out 4).trans rfl
    have hfg12_4 := blk_frozen BKg12.out 4
    have hcg12_5 : w39.cell? ⟨g12, 5, none⟩ = some (.slice A5 x.f5.length c5) := (blk_cell BKg12.out 5).trans rfl
    have hfg12_5 := blk_frozen BKg12.out 5
    clear q0 q1 q2 q3 q4 q5 b1 b2 b3
    have q0_ := SZ12.out
    have q1_ := SZ39.out
    have HDX := Aside0.mk (DR.fresh HDR.out HB.out)
    have HIX := Aside0.mk (show Iv wo.heap.size w39.heap.size g12 from ⟨by omega, by omega⟩)
    clear q0_ q1_
    have tok33 : True := trivial
    go_wp2_with (first | (have _ := tok33; go_at_call 22; (with_reducible refine (DOnA (DR.step_ HDX.out (by repeat (first | exact Below.refl _ _ | apply below_alloc | apply pw_below_drewN | apply below_drew1)))).mono ?_); rintro e w40 ⟨rfl, hd, hX⟩; (try clear hcg12_0 hfg12_0 hcg12_1 hfg12_1 hcg12_2 hfg12_2 hcg12_3 hfg12_3 hcg12_4 hfg12_4 hcg12_5 hfg12_5); replace HDX := Aside0.mk hd; replace BKg12 := Aside0.mk (kw_X BKg12.out hX HIX.out); clear hd hX; replace HB := Aside0.mk (Below.refl w40.heap.size w40); have hcg12_0 : w40.cell? ⟨g12, 0, none⟩ = some (.int .u8 x.f0) := (blk_cell BKg12.out 0).trans rfl; have hfg12_0 := blk_frozen BKg12.out 0; have hcg12_1 : w40.cell? ⟨g12, 1, none⟩ = some (.int .i64 x.f1) := (blk_cell BKg12.out 1).trans rfl; have hfg12_1 := blk_frozen BKg12.out 1; have hcg12_2 : w40.cell? ⟨g12, 2, none⟩ = some (.int .i64 x.f2) := (blk_cell BKg12.out 2).trans rfl; have hfg12_2 := blk_frozen BKg12.out 2; have hcg12_3 : w40.cell? ⟨g12, 3, none⟩ = some (.int .i64 x.f3) := (blk_cell BKg12.out 3).trans rfl; have hfg12_3 := blk_frozen BKg12.out 3; have hcg12_4 : w40.cell? ⟨g12, 4, none⟩ = some (.int .i64 x.f4) := (blk_cell BKg12.out 4).trans rfl; have hfg12_4 := blk_frozen BKg12.out 4; have hcg12_5 : w40.cell? ⟨g12, 5, none⟩ = some (.slice A5 x.f5.length c5) := (blk_cell BKg12.out 5).trans rfl; have hfg12_5 := blk_frozen BKg12.out 5; clear tok33; have tok34 : True := trivial) | (have _ := tok34; go_at_call 38; (with_reducible refine (DOnB (DR.step_ HDX.out (by repeat (first | exact Below.refl _ _ | apply below_alloc | apply pw_below_drewN | apply below_drew1)))).mono ?_); rintro e w41 ⟨rfl, hd, hX⟩; (try clear hcg12_0 hfg12_0 hcg12_1 hfg12_1 hcg12_2 hfg12_2 hcg12_3 hfg12_3 hcg12_4 hfg12_4 hcg12_5 hfg12_5); replace HDX := Aside0.mk hd; replace BKg12 := Aside0.mk (kw_X BKg12.out hX HIX.out); clear hd hX; replace HB := Aside0.mk (Below.refl w41.heap.size w41); have hcg12_0 : w41.cell? ⟨g12, 0, none⟩ = some (.int .u8 x.f0) := (blk_cell BKg12.out 0).trans rfl; have hfg12_0 := blk_frozen BKg12.out 0; have hcg12_1 : w41.cell? ⟨g12, 1, none⟩ = some (.int .i64 x.f1) := (blk_cell BKg12.out 1).trans rfl; have hfg12_1 := blk_frozen BKg12.out 1; have hcg12_2 : w41.cell? ⟨g12, 2, none⟩ = some (.int .i64 x.f2) := (blk_cell BKg12.out 2).trans rfl; have hfg12_2 := blk_frozen BKg12.out 2; have hcg12_3 : w41.cell? ⟨g12, 3, none⟩ = some (.int .i64 x.f3) := (blk_cell BKg12.out 3).trans rfl; have hfg12_3 := blk_frozen BKg12.out 3; have hcg12_4 : w41.cell? ⟨g12, 4, none⟩ = some (.int .i64 x.f4) := (blk_cell BKg12.out 4).trans rfl; have hfg12_4 := blk_frozen BKg12.out 4; have hcg12_5 : w41.cell? ⟨g12, 5, none⟩ = some (.slice A5 x.f5.length c5) := (blk_cell BKg12.out 5).trans rfl; have hfg12_5 := blk_frozen BKg12.out 5; clear tok34))
    (try clear hcg12_0 hfg12_0 hcg12_1 hfg12_1 hcg12_2 hfg12_2 hcg12_3 hfg12_3 hcg12_4 hfg12_4 hcg12_5 hfg12_5)
    clear BKg12
    have HS2 := Aside0.mk (show St a b c d g ⟨s.slots, false, -1, s.wr⟩ (i + 1) from HSt.out.on)
    have tok35 : True := trivial
    go_wp2_with (first | (have _ := tok35; go_at_call 12; (with_reducible refine (DSame HS2.out.fit (DR.step_ HDX.out (by repeat (first | exact Below.refl _ _ | apply below_alloc | apply pw_below_drewN | apply below_drew1)))).mono ?_); rintro e w42 ⟨rfl, hb⟩; have hs : Below w41.heap.size w41 w42 := below_step (by repeat (first | exact Below.refl _ _ | apply below_alloc | apply pw_below_drewN | apply below_drew1)) hb; have hl : w41.heap.size ≤ _ := below_size (w := w41) (by repeat (first | exact Below.refl _ _ | apply below_alloc | apply pw_below_drewN | apply below_drew1)); have SZ42 := Aside0.mk (show w41.heap.size ≤ w42.heap.size from hs.size); replace HDX := Aside0.mk (DR.step_ HDX.out hs); replace HB := hbs HB hs; clear hb hs; (try clear hl); clear tok35))
    go_wp2_with (fail)
    have hax := AX.out
    have hlt_ := HLT.out
    have hl40 := HLEN.out
    go_roundg (gko - 1)
    case measure => rw [← hgko]; omega
    case rel => exact ⟨i + 1, _, _, by rw [show wrap64 ((i : Int) + 1) = ((i + 1 : Nat) : Int) by unfold wrap64; omega], Aside0.mk ⟨by omega, by omega⟩, Aside0.mk HDX.out.last, HS2⟩
   ·
    skip
    (try clear hcg12_0 hfg12_0 hcg12_1 hfg12_1 hcg12_2 hfg12_2 hcg12_3 hfg12_3 hcg12_4 hfg12_4 hcg12_5 hfg12_5)
    have q0_ := SZ12.out
    generalize hw : ((((((w12.setCell ⟨g12, 0, none⟩ (.int .u8 x.f0)).setCell ⟨g12, 1, none⟩ (.int .i64 x.f1)).setCell ⟨g12, 2, none⟩ (.int .i64 x.f2)).setCell ⟨g12, 3, none⟩ (.int .i64 x.f3)).setCell ⟨g12, 4, none⟩ (.int .i64 x.f4)).setCell ⟨g12, 5, none⟩ (.slice A5 x.f5.length c5)) = w43
    have hs : Kept w12 w43 (Iv g12 (g12 + 1)) := by rw [← hw]; exact kput (kput (kput (kput (kput (kput (Kept.refl _ _))))))
    replace BKg12 : Aside0 (w43.heap[g12]? = some (.cells #[.int .u8 x.f0, .int .i64 x.f1, .int .i64 x.f2, .int .i64 x.f3, .int .i64 x.f4, .slice A5 x.f5.length c5] 69 (0, 0))) := ⟨by rw [← hw]; exact blk_put (blk_put (blk_put (blk_put (blk_put (blk_put (BKg12.out) 0 _ rfl) 1 _ rfl) 2 _ rfl) 3 _ rfl) 4 _ rfl) 5 _ rfl⟩
    have hq : wo.heap.size ≤ g12 := (by omega)
    replace HB : Aside0 (Below wo.heap.size wo w43) := ⟨by rw [← hw]; exact below_set (below_set (below_set (below_set (below_set (below_set (HB.out) hq) hq) hq) hq) hq) hq⟩
    have SZ43 := Aside0.mk (show w12.heap.size ≤ w43.heap.size from hs.1)
    clear q0_
    clear hs hw hq
    have hcg12_0 : w43.cell? ⟨g12, 0, none⟩ = some (.int .u8 x.f0) := (blk_cell BKg12.out 0).trans rfl
    have hfg12_0 := blk_frozen BKg12.out 0
    have hcg12_1 : w43.cell? ⟨g12, 1, none⟩ = some (.int .i64 x.f1) := (blk_cell BKg12.out 1).trans rfl
    have hfg12_1 := blk_frozen BKg12.out 1
    have hcg12_2 : w43.cell? ⟨g12, 2, none⟩ = some (.int .i64 x.f2) := (blk_cell BKg12.out 2).trans rfl
    have hfg12_2 := blk_frozen BKg12.out 2
    have hcg12_3 : w43.cell? ⟨g12, 3, none⟩ = some (.int .i64 x.f3) := (blk_cell BKg12.out 3).trans rfl
    have hfg12_3 := blk_frozen BKg12.out 3
    have hcg12_4 : w43.cell? ⟨g12, 4, none⟩ = some (.int .i64 x.f4) := (blk_cell BKg12.out 4).trans rfl
    have hfg12_4 := blk_frozen BKg12.out 4
    have hcg12_5 : w43.cell? ⟨g12, 5, none⟩ = some (.slice A5 x.f5.length c5) := (blk_cell BKg12.out 5).trans rfl
    have hfg12_5 := blk_frozen BKg12.out 5
    clear q0 q1 q2 q3 q4 q5 b1 b2 b3
    have q0_ := SZ12.out
    have q1_ := SZ43.out
    have HDX := Aside0.mk (DR.fresh HDR.out HB.out)
    have HIX := Aside0.mk (show Iv wo.heap.size w43.heap.size g12 from ⟨by omega, by omega⟩)
    clear q0_ q1_
    have tok36 : True := trivial
    go_wp2_with (first | (have _ := tok36; go_at_call 26; (with_reducible refine (DWholeA_ HSt.out.fit (DR.step_ HDX.out (by repeat (first | exact Below.refl _ _ | apply below_alloc | apply pw_below_drewN | apply below_drew1)))).mono ?_); rintro e w44 ⟨rfl, hd, hX⟩; (try clear hcg12_0 hfg12_0 hcg12_1 hfg12_1 hcg12_2 hfg12_2 hcg12_3 hfg12_3 hcg12_4 hfg12_4 hcg12_5 hfg12_5); replace HDX := Aside0.mk hd; replace BKg12 := Aside0.mk (kw_X BKg12.out hX HIX.out); clear hd hX; replace HB := Aside0.mk (Below.refl w44.heap.size w44); have hcg12_0 : w44.cell? ⟨g12, 0, none⟩ = some (.int .u8 x.f0) := (blk_cell BKg12.out 0).trans rfl; have hfg12_0 := blk_frozen BKg12.out 0; have hcg12_1 : w44.cell? ⟨g12, 1, none⟩ = some (.int .i64 x.f1) := (blk_cell BKg12.out 1).trans rfl; have hfg12_1 := blk_frozen BKg12.out 1; have hcg12_2 : w44.cell? ⟨g12, 2, none⟩ = some (.int .i64 x.f2) := (blk_cell BKg12.out 2).trans rfl; have hfg12_2 := blk_frozen BKg12.out 2; have hcg12_3 : w44.cell? ⟨g12, 3, none⟩ = some (.int .i64 x.f3) := (blk_cell BKg12.out 3).trans rfl; have hfg12_3 := blk_frozen BKg12.out 3; have hcg12_4 : w44.cell? ⟨g12, 4, none⟩ = some (.int .i64 x.f4) := (blk_cell BKg12.out 4).trans rfl; have hfg12_4 := blk_frozen BKg12.out 4; have hcg12_5 : w44.cell? ⟨g12, 5, none⟩ = some (.slice A5 x.f5.length c5) := (blk_cell BKg12.out 5).trans rfl; have hfg12_5 := blk_frozen BKg12.out 5; clear tok36; have tok37 : True := trivial) | (have _ := tok37; go_at_call 39; (with_reducible refine (DWholeB HSt.out.fit (DR.step_ HDX.out (by repeat (first | exact Below.refl _ _ | apply below_alloc | apply pw_below_drewN | apply below_drew1)))).mono ?_); rintro e w45 ⟨rfl, hd, hX⟩; (try clear hcg12_0 hfg12_0 hcg12_1 hfg12_1 hcg12_2 hfg12_2 hcg12_3 hfg12_3 hcg12_4 hfg12_4 hcg12_5 hfg12_5); replace HDX := Aside0.mk hd; replace BKg12 := Aside0.mk (kw_X BKg12.out hX HIX.out); clear hd hX; replace HB := Aside0.mk (Below.refl w45.heap.size w45); have hcg12_0 : w45.cell? ⟨g12, 0, none⟩ = some (.int .u8 x.f0) := (blk_cell BKg12.out 0).trans rfl; have hfg12_0 := blk_frozen BKg12.out 0; have hcg12_1 : w45.cell? ⟨g12, 1, none⟩ = some (.int .i64 x.f1) := (blk_cell BKg12.out 1).trans rfl; have hfg12_1 := blk_frozen BKg12.out 1; have hcg12_2 : w45.cell? ⟨g12, 2, none⟩ = some (.int .i64 x.f2) := (blk_cell BKg12.out 2).trans rfl; have hfg12_2 := blk_frozen BKg12.out 2; have hcg12_3 : w45.cell? ⟨g12, 3, none⟩ = some (.int .i64 x.f3) := (blk_cell BKg12.out 3).trans rfl; have hfg12_3 := blk_frozen BKg12.out 3; have hcg12_4 : w45.cell? ⟨g12, 4, none⟩ = some (.int .i64 x.f4) := (blk_cell BKg12.out 4).trans rfl; have hfg12_4 := blk_frozen BKg12.out 4; have hcg12_5 : w45.cell? ⟨g12, 5, none⟩ = some (.slice A5 x.f5.length c5) := (blk_cell BKg12.out 5).trans rfl; have hfg12_5 := blk_frozen BKg12.out 5; clear tok37))
    (try clear hcg12_0 hfg12_0 hcg12_1 hfg12_1 hcg12_2 hfg12_2 hcg12_3 hfg12_3 hcg12_4 hfg12_4 hcg12_5 hfg12_5)
    clear BKg12
    have HS2 := Aside0.mk (show St a b c d (List.replicate g.length false) s (i + 1) from HSt.out.whole)
    have tok38 : True := trivial
    go_wp2_with (first | (have _ := tok38; go_at_call 12; (with_reducible refine (DSame HS2.out.fit (DR.step_ HDX.out (by repeat (first | exact Below.refl _ _ | apply below_alloc | apply pw_below_drewN | apply below_drew1)))).mono ?_); rintro e w46 ⟨rfl, hb⟩; have hs : Below w45.heap.size w45 w46 := below_step (by repeat (first | exact Below.refl _ _ | apply below_alloc | apply pw_below_drewN | apply below_drew1)) hb; have hl : w45.heap.size ≤ _ := below_size (w := w45) (by repeat (first | exact Below.refl _ _ | apply below_alloc | apply pw_below_drewN | apply below_drew1)); have SZ46 := Aside0.mk (show w45.heap.size ≤ w46.heap.size from hs.size); replace HDX := Aside0.mk (DR.step_ HDX.out hs); replace HB := hbs HB hs; clear hb hs; (try clear hl); clear tok38))
    go_wp2_with (fail)
    have hax := AX.out
    have hlt_ := HLT.out
    have hl40 := HLEN.out
    go_roundg (gko - 1)
    case measure => rw [← hgko]; omega
    case rel => exact ⟨i + 1, _, _, by rw [show wrap64 ((i : Int) + 1) = ((i + 1 : Nat) : Int) by unfold wrap64; omega], Aside0.mk ⟨by omega, by omega⟩, Aside0.mk HDX.out.last, HS2⟩
   ·
    skip
    (try clear hcg12_0 hfg12_0 hcg12_1 hfg12_1 hcg12_2 hfg12_2 hcg12_3 hfg12_3 hcg12_4 hfg12_4 hcg12_5 hfg12_5)
    have q0_ := SZ12.out
    generalize hw : ((((((w12.setCell ⟨g12, 0, none⟩ (.int .u8 x.f0)).setCell ⟨g12, 1, none⟩ (.int .i64 x.f1)).setCell ⟨g12, 2, none⟩ (.int .i64 x.f2)).setCell ⟨g12, 3, none⟩ (.int .i64 x.f3)).setCell ⟨g12, 4, none⟩ (.int .i64 x.f4)).setCell ⟨g12, 5, none⟩ (.slice A5 x.f5.length c5)) = w47
    have hs : Kept w12 w47 (Iv g12 (g12 + 1)) := by rw [← hw]; exact kput (kput (kput (kput (kput (kput (Kept.refl _ _))))))
    replace BKg12 : Aside0 (w47.heap[g12]? = some (.cells #[.int .u8 x.f0, .int .i64 x.f1, .int .i64 x.f2, .int .i64 x.f3, .int .i64 x.f4, .slice A5 x.f5.length c5] 69 (0, 0))) := ⟨by rw [← hw]; exact blk_put (blk_put (blk_put (blk_put (blk_put (blk_put (BKg12.out) 0 _ rfl) 1 _ rfl) 2 _ rfl) 3 _ rfl) 4 _ rfl) 5 _ rfl⟩
    have hq : wo.heap.size ≤ g12 := (by omega)
    replace HB : Aside0 (Below wo.heap.size wo w47) := ⟨by rw [← hw]; exact below_set (below_set (below_set (below_set (below_set (below_set (HB.out) hq) hq) hq) hq) hq) hq⟩
    have SZ47 := Aside0.mk (show w12.heap.size ≤ w47.heap.size from hs.1)
    clear q0_
    clear hs hw hq
    have hcg12_0 : w47.cell? ⟨g12, 0, none⟩ = some (.int .u8 x.f0) := (blk_cell BKg12.out 0).trans rfl
    have hfg12_0 := blk_frozen BKg12.out 0
    have hcg12_1 : w47.cell? ⟨g12, 1, none⟩ = some (.int .i64 x.f1) := (blk_cell BKg12.out 1).trans rfl
    have hfg12_1 := blk_frozen BKg12.out 1
    have hcg12_2 : w47.cell? ⟨g12, 2, none⟩ = some (.int .i64 x.f2) := (blk_cell BKg12.out 2).trans rfl
    have hfg12_2 := blk_frozen BKg12.out 2
    have hcg12_3 : w47.cell? ⟨g12, 3, none⟩ = some (.int .i64 x.f3) := (blk_cell BKg12.out 3).trans rfl
    have hfg12_3 := blk_frozen BKg12.out 3
    have hcg12_4 : w47.cell? ⟨g12, 4, none⟩ = some (.int .i64 x.f4) := (blk_cell BKg12.out 4).trans rfl
    have hfg12_4 := blk_frozen BKg12.out 4
    have hcg12_5 : w47.cell? ⟨g12, 5, none⟩ = some (.slice A5 x.f5.length c5) := (blk_cell BKg12.out 5).trans rfl
    have hfg12_5 := blk_frozen BKg12.out 5
    clear q0 q1 q2 q3 q4 q5 b1 b2 b3
    (try clear hcg12_0 hfg12_0 hcg12_1 hfg12_1 hcg12_2 hfg12_2 hcg12_3 hfg12_3 hcg12_4 hfg12_4 hcg12_5 hfg12_5)
    clear BKg12
    have tok39 : True := trivial
    go_wp2_with (first | (have _ := tok39; go_at_call 23; (with_reducible refine (DImageA HSt.out.fit (DR.fresh HDR.out (by repeat (first | exact HB.out | apply below_alloc | apply pw_below_drewN | apply below_drew1)))).mono ?_); rintro e w48 ⟨v, rfl, hv, hb⟩; have hs : Below w47.heap.size w47 w48 := below_step (by repeat (first | exact Below.refl _ _ | apply below_alloc | apply pw_below_drewN | apply below_drew1)) hb; have hl : w47.heap.size ≤ _ := below_size (w := w47) (by repeat (first | exact Below.refl _ _ | apply below_alloc | apply pw_below_drewN | apply below_drew1)); have SZ48 := Aside0.mk (show w47.heap.size ≤ w48.heap.size from hs.size); have HIM := Aside0.mk (N_im (base := wo.heap.size) hv (by have := SZ12.out; have := SZ47.out; omega)); replace HB := hbs HB hs; clear hv; obtain ⟨A8, c8, e8⟩ := Kd.N_slice HIM.out; subst e8; clear hb hs; (try clear hl); clear tok39; have tok40 : True := trivial) | (have _ := tok40; (with_reducible refine gate_dst (N := 25) rfl ?_); refine box_event ?hg (N := 25) ?hd (cs := #[.int .i64 0, .int .i64 0, .int .i64 0, .int .i64 0, .slice none 0 0]) (t := 36) ?hr ?_; (case hd => rfl); (case hg => rfl); (case hr => first | (go_simp; done) | (go_simp; rfl)); intro g25 hg w49 hbox hb; have hs : Below w48.heap.size w48 w49 := below_step (by repeat (first | exact Below.refl _ _ | apply below_alloc | apply pw_below_drewN | apply below_drew1)) hb; have SZ49 := Aside0.mk (show w48.heap.size ≤ g25 ∧ g25 < w49.heap.size from ⟨by rw [hg]; exact (below_size (by repeat (first | exact Below.refl _ _ | apply below_alloc | apply pw_below_drewN | apply below_drew1))), blk_lt hbox⟩); replace HIM := Aside0.mk (Kd.N_below HIM.out hs); replace HB := hbs HB hs; have q0_ := SZ12.out; have q1_ := SZ47.out; have q2_ := SZ48.out; have q3_ := SZ49.out; clear q0_ q1_ q2_ q3_; have BKg25 := Aside0.mk hbox; clear hb hbox hg hs; obtain ⟨⟨hcg25_0, hfg25_0⟩, ⟨hcg25_1, hfg25_1⟩, ⟨hcg25_2, hfg25_2⟩, ⟨hcg25_3, hfg25_3⟩, ⟨hcg25_4, hfg25_4⟩⟩ := cells5 BKg25.out; clear tok40))
    (try clear hcg25_0 hfg25_0 hcg25_1 hfg25_1 hcg25_2 hfg25_2 hcg25_3 hfg25_3 hcg25_4 hfg25_4)
    have q0_ := SZ12.out
    have q1_ := SZ47.out
    have q2_ := SZ48.out
    have q3_ := SZ49.out
    generalize hw : (((((w49.setCell ⟨g25, 0, none⟩ (.int .i64 a)).setCell ⟨g25, 1, none⟩ (.int .i64 b)).setCell ⟨g25, 2, none⟩ (.int .i64 c)).setCell ⟨g25, 3, none⟩ (.int .i64 d)).setCell ⟨g25, 4, none⟩ (.slice A8 s.slots.length c8)) = w50
    have hs : Kept w49 w50 (Iv g25 (g25 + 1)) := by rw [← hw]; exact kput (kput (kput (kput (kput (Kept.refl _ _)))))
    replace HIM := Aside0.mk (Kd.N_kept HIM.out hs (Iv_apart (by omega)))
    replace BKg25 : Aside0 (w50.heap[g25]? = some (.cells #[.int .i64 a, .int .i64 b, .int .i64 c, .int .i64 d, .slice A8 s.slots.length c8] 36 (0, 0))) := ⟨by rw [← hw]; exact blk_put (blk_put (blk_put (blk_put (blk_put (BKg25.out) 0 _ rfl) 1 _ rfl) 2 _ rfl) 3 _ rfl) 4 _ rfl⟩
    have hq : wo.heap.size ≤ g25 := (by omega)
    replace HB : Aside0 (Below wo.heap.size wo w50) := ⟨by rw [← hw]; exact below_set (below_set (below_set (below_set (below_set (HB.out) hq) hq) hq) hq) hq⟩
    have SZ50 := Aside0.mk (show w49.heap.size ≤ w50.heap.size from hs.1)
    clear q0_ q1_ q2_ q3_
    clear hs hw hq
    obtain ⟨⟨hcg25_0, hfg25_0⟩, ⟨hcg25_1, hfg25_1⟩, ⟨hcg25_2, hfg25_2⟩, ⟨hcg25_3, hfg25_3⟩, ⟨hcg25_4, hfg25_4⟩⟩ := cells5 BKg25.out
    have q0_ := SZ12.out
    have q1_ := SZ47.out
    have q2_ := SZ48.out
    have q3_ := SZ49.out
    have q4_ := SZ50.out
    have HDX := Aside0.mk (DR.fresh HDR.out HB.out)
    skip
    clear q0_ q1_ q2_ q3_ q4_
    have q0_ := SZ12.out
    have q1_ := SZ47.out
    have q2_ := SZ48.out
    have q3_ := SZ49.out
    have q4_ := SZ50.out
    have HLO := Aside0.mk (show wo.heap.size ≤ w47.heap.size by omega)
    have HHI := Aside0.mk (show w48.heap.size ≤ w50.heap.size by omega)
    clear q0_ q1_ q2_ q3_ q4_
    have tok41 : True := trivial
    go_wp2_with (first | (have _ := tok41; go_at_call 32; (with_reducible refine (spoil_N a b c d _ s.slots _ wo _ HB.out (Kd.N_below HIM.out (by repeat (first | exact Below.refl _ _ | apply below_alloc | apply pw_below_drewN | apply below_drew1))) (Iv_lo HLO.out) HSt.out.len HSt.out.num).mono ?_); rintro e w51 ⟨rfl, hb, hk⟩; (try clear hcg25_0 hfg25_0 hcg25_1 hfg25_1 hcg25_2 hfg25_2 hcg25_3 hfg25_3 hcg25_4 hfg25_4); replace HDX := Aside0.mk (DR.touch HDX.out (below_step HDR.out.below hb) hk (Iv_sub HLO.out HHI.out)); replace HB := Aside0.mk hb; clear hb hk BKg25 HIM; clear tok41))
    have HS2 := Aside0.mk (show St a b c d g s (i + 1) from HSt.out.next)
    have tok42 : True := trivial
    go_wp2_with (first | (have _ := tok42; go_at_call 12; (with_reducible refine (DSame HS2.out.fit (DR.step_ HDX.out (by repeat (first | exact Below.refl _ _ | apply below_alloc | apply pw_below_drewN | apply below_drew1)))).mono ?_); rintro e w52 ⟨rfl, hb⟩; have hs : Below w51.heap.size w51 w52 := below_step (by repeat (first | exact Below.refl _ _ | apply below_alloc | apply pw_below_drewN | apply below_drew1)) hb; have hl : w51.heap.size ≤ _ := below_size (w := w51) (by repeat (first | exact Below.refl _ _ | apply below_alloc | apply pw_below_drewN | apply below_drew1)); have SZ52 := Aside0.mk (show w51.heap.size ≤ w52.heap.size from hs.size); replace HDX := Aside0.mk (DR.step_ HDX.out hs); replace HB := hbs HB hs; clear hb hs; (try clear hl); clear tok42))
    go_wp2_with (fail)
    have hax := AX.out
    have hlt_ := HLT.out
    have hl40 := HLEN.out
    go_roundg (gko - 1)
    case measure => rw [← hgko]; omega
    case rel => exact ⟨i + 1, _, _, by rw [show wrap64 ((i : Int) + 1) = ((i + 1 : Nat) : Int) by unfold wrap64; omega], Aside0.mk ⟨by omega, by omega⟩, Aside0.mk HDX.out.last, HS2⟩
   ·
    skip
    (try clear hcg12_0 hfg12_0 hcg12_1 hfg12_1 hcg12_2 hfg12_2 hcg12_3 hfg12_3 hcg12_4 hfg12_4 hcg12_5 hfg12_5)
    have q0_ := SZ12.out
    generalize hw : ((((((w12.setCell ⟨g12, 0, none⟩ (.int .u8 x.f0)).setCell ⟨g12, 1, none⟩ (.int .i64 x.f1)).setCell ⟨g12, 2, none⟩ (.int .i64 x.f2)).setCell ⟨g12, 3, none⟩ (.int .i64 x.f3)).setCell ⟨g12, 4, none⟩ (.int .i64 x.f4)).setCell ⟨g12, 5, none⟩ (.slice A5 x.f5.length c5)) = w53
    have hs : Kept w12 w53 (Iv g12 (g12 + 1)) := by rw [← hw]; exact kput (kput (kput (kput (kput (kput (Kept.refl _ _))))))
    replace BKg12 : Aside0 (w53.heap[g12]? = some (.cells #[.int .u8 x.f0, .int .i64 x.f1, .int .i64 x.f2, .int .i64 x.f3, .int .i64 x.f4, .slice A5 x.f5.length c5] 69 (0, 0))) := ⟨by rw [← hw]; exact blk_put (blk_put (blk_put (blk_put (blk_put (blk_put (BKg12.out) 0 _ rfl) 1 _ rfl) 2 _ rfl) 3 _ rfl) 4 _ rfl) 5 _ rfl⟩
    have hq : wo.heap.size ≤ g12 := (by omega)
    replace HB : Aside0 (Below wo.heap.size wo w53) := ⟨by rw [← hw]; exact below_set (below_set (below_set (below_set (below_set (below_set (HB.out) hq) hq) hq) hq) hq) hq⟩
    have SZ53 := Aside0.mk (show w12.heap.size ≤ w53.heap.size from hs.1)
    clear q0_
    clear hs hw hq
    have hcg12_0 : w53.cell? ⟨g12, 0, none⟩ = some (.int .u8 x.f0) := (blk_cell BKg12.out 0).trans rfl
    have hfg12_0 := blk_frozen BKg12.out 0
    have hcg12_1 : w53.cell? ⟨g12, 1, none⟩ = some (.int .i64 x.f1) := (blk_cell BKg12.out 1).trans rfl
    have hfg12_1 := blk_frozen BKg12.out 1
    have hcg12_2 : w53.cell? ⟨g12, 2, none⟩ = some (.int .i64 x.f2) := (blk_cell BKg12.out 2).trans rfl
    have hfg12_2 := blk_frozen BKg12.out 2
    have hcg12_3 : w53.cell? ⟨g12, 3, none⟩ = some (.int .i64 x.f3) := (blk_cell BKg12.out 3).trans rfl
    have hfg12_3 := blk_frozen BKg12.out 3
    have hcg12_4 : w53.cell? ⟨g12, 4, none⟩ = some (.int .i64 x.f4) := (blk_cell BKg12.out 4).trans rfl
    have hfg12_4 := blk_frozen BKg12.out 4
    have hcg12_5 : w53.cell? ⟨g12, 5, none⟩ = some (.slice A5 x.f5.length c5) := (blk_cell BKg12.out 5).trans rfl
    have hfg12_5 := blk_frozen BKg12.out 5
    clear q0 q1 q2 q3 q4 q5 b1 b2 b3
    have q0_ := SZ12.out
    have q1_ := SZ53.out
    have HDX := Aside0.mk (DR.fresh HDR.out HB.out)
    have HIX := Aside0.mk (show Iv wo.heap.size w53.heap.size g12 from ⟨by omega, by omega⟩)
    clear q0_ q1_
    (try clear hcg12_0 hfg12_0 hcg12_1 hfg12_1 hcg12_2 hfg12_2 hcg12_3 hfg12_3 hcg12_4 hfg12_4 hcg12_5 hfg12_5)
    clear BKg12
    have HS2 := Aside0.mk (show St a b c d g s (i + 1) from HSt.out.next)
    have tok43 : True := trivial
    go_wp2_with (first | (have _ := tok43; go_at_call 12; (with_reducible refine (DSame HS2.out.fit (DR.step_ HDX.out (by repeat (first | exact Below.refl _ _ | apply below_alloc | apply pw_below_drewN | apply below_drew1)))).mono ?_); rintro e w54 ⟨rfl, hb⟩; have hs : Below w53.heap.size w53 w54 := below_step (by repeat (first | exact Below.refl _ _ | apply below_alloc | apply pw_below_drewN | apply below_drew1)) hb; have hl : w53.heap.size ≤ _ := below_size (w := w53) (by repeat (first | exact Below.refl _ _ | apply below_alloc | apply pw_below_drewN | apply below_drew1)); have SZ54 := Aside0.mk (show w53.heap.size ≤ w54.heap.size from hs.size); replace HDX := Aside0.mk (DR.step_ HDX.out hs); replace HB := hbs HB hs; clear hb hs; (try clear hl); clear tok43))
    go_wp2_with (fail)
    have hax := AX.out
    have hlt_ := HLT.out
    have hl40 := HLEN.out
    go_roundg (gko - 1)
    case measure => rw [← hgko]; omega
    case rel => exact ⟨i + 1, _, _, by rw [show wrap64 ((i : Int) + 1) = ((i + 1 : Nat) : Int) by unfold wrap64; omega], Aside0.mk ⟨by omega, by omega⟩, Aside0.mk HDX.out.last, HS2⟩
  ·
   have b1 : decide ((i : Int) < (l.length : Int)) = false := decide_eq_false (by omega)
   have b2 : decide (i < l.length) = false := decide_eq_false hlt
   have b3 : (i < l.length) = False := eq_false hlt
   clear hlt
   go_wp2_with (fail)
   go_ret
   exact ⟨rfl, HDR.out.below⟩
end Go.Proofs.Ytemmhgfjfbdggaa.P

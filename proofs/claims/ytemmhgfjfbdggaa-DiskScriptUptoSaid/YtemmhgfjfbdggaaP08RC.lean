import Derived.Test.YtemmhgfjfbdggaaM8c
import Derived.Test.YtemmhgfjfbdggaaM8h
namespace Go.Proofs.Ytemmhgfjfbdggaa.P
open Go.RowKit Go.Proofs.YtemmhgfjfbdggaaW.PrintWords Go.Proofs.YtemmhgfjfbdggaaW.PrintLast Go.Proofs.YtemmhgfjfbdggaaW.PrintMore
attribute [local go_sem] max2_int min2_int max_two min_two max_three min_three max_four min_four
set_option linter.unusedVariables false
set_option linter.unusedSimpArgs false
set_option maxHeartbeats 8000000 in
set_option maxRecDepth 100000 in
theorem RWrite_off (r : Nat) (As Ag : Option Addr) (n cs m cg : Nat) (a b c d : Int) (slots : List (List Int)) (gone : List Bool) (off : Bool) (cut wr : Int) (base : Nat) (ok : Nat → Prop) (x : S51) (B : Option Addr) (cc : Nat) (w : World) (H : RefO w base ok r As n cs Ag m cg a b c d slots gone off cut wr) (hm : (m : Int) = a + b) (hm2 : m ≤ 16) (hd : 0 ≤ d ∧ d ≤ 4096) (ho : off = true) : Calls Try.prog 52 #[.pointer (some ⟨r, 0, none⟩), .agg #[.int .i64 x.f0, .int .i64 x.f1, .int .i64 x.f2, .slice B x.f3.length cc]] w fun e w' => e = .returned (.int .i64 9) ∧ RefO w' base (Gr ok w w') r As n cs Ag m cg a b c d slots gone true cut wr ∧ Wrote base ok w w' := by
 have hu23 := Try.underlying23
 have hu51 := Try.underlying51
 have hu80 := Try.underlying80
 have hu36 := Try.underlying36
 subst ho
 have HTE := Aside0.mk (there_ev (c := c) hm hm2 hd x.f0 x.f1 x.f2)
 have HSE := Aside0.mk (size8_ev (c := c) (d := d) hm hm2)
 have HB := Aside0.mk (Below.refl w.heap.size w)
 have H0 := Aside0.mk H
 have BKr := Aside0.mk H.1
 have HZ1 := Aside0.mk (show r < w.heap.size from blk_lt H.1)
 clear H hm hm2 hd
 obtain ⟨-, -, -, -, -, hcr_5, -, -, -, -, -, -, -, -, hfr_5, -, -, -⟩ := cs9 BKr.out
 go_enter Try.func52, Try.ntmps52
 have tok1 : True := trivial
 go_wp2_with (first | (have _ := tok1; (with_reducible refine gate_dst (N := 3) rfl ?_); refine box_event rfl (N := 3) rfl (cs := #[.int .i64 x.f0, .int .i64 x.f1, .int .i64 x.f2, .slice B x.f3.length cc]) (t := 51) (by go_simp; try rfl) ?_; intro g3 hg w1 hbox hb; have hs : Below w.heap.size w w1 := below_step Lt8.b hb; have SZ1 := Aside0.mk (show w.heap.size ≤ g3 ∧ g3 < w1.heap.size from ⟨by rw [hg]; exact (below_size Lt8.b), blk_lt hbox⟩); (try clear hcr_5 hfr_5); replace BKr := bb BKr hs; replace HB := hbs HB hs; have q0_ := HZ1.out; have q1_ := SZ1.out; have hner_g3 : r ≠ g3 := (by omega); have hneg3_r := hner_g3.symm; clear q0_ q1_; have BKg3 := Aside0.mk hbox; clear hb hbox hg hs; obtain ⟨-, -, -, -, -, hcr_5, -, -, -, -, -, -, -, -, hfr_5, -, -, -⟩ := cs9 BKr.out; obtain ⟨⟨hcg3_0, hfg3_0⟩, ⟨hcg3_1, hfg3_1⟩, ⟨hcg3_2, hfg3_2⟩, ⟨hcg3_3, hfg3_3⟩⟩ := cells4 BKg3.out; clear tok1))
 first | go_ret | go_ret2
 exact ⟨rfl, (H0.out.below HB.out).gr H0.out.low (fun k hk => .inl hk) H0.out.base_, (Wrote.start H0.out.low).below HB.out⟩
set_option maxHeartbeats 8000000 in
set_option maxRecDepth 100000 in
theorem RWrite_bad (r : Nat) (As Ag : Option Addr) (n cs m cg : Nat) (a b c d : Int) (slots : List (List Int)) (gone : List Bool) (off : Bool) (cut wr : Int) (base : Nat) (ok : Nat → Prop) (x : S51) (B : Option Addr) (cc : Nat) (w : World) (H : RefO w base ok r As n cs Ag m cg a b c d slots gone off cut wr) (hm : (m : Int) = a + b) (hm2 : m ≤ 16) (hd : 0 ≤ d ∧ d ≤ 4096) (ho : off = false) (hat : atOf m d x.f0 x.f1 x.f2 < 0) : Calls Try.prog 52 #[.pointer (some ⟨r, 0, none⟩), .agg #[.int .i64 x.f0, .int .i64 x.f1, .int .i64 x.f2, .slice B x.f3.length cc]] w fun e w' => e = .returned (.int .i64 80) ∧ RefO w' base (Gr ok w w') r As n cs Ag m cg a b c d slots gone false cut wr ∧ Wrote base ok w w' := by
 have hu23 := Try.underlying23
 have hu51 := Try.underlying51
 have hu80 := Try.underlying80
 have hu36 := Try.underlying36
 subst ho
 have d1 : decide (atOf m d x.f0 x.f1 x.f2 < 0) = true := decide_eq_true hat
 clear hat
 have HTE := Aside0.mk (there_ev (c := c) hm hm2 hd x.f0 x.f1 x.f2)
 have HSE := Aside0.mk (size8_ev (c := c) (d := d) hm hm2)
 have HB := Aside0.mk (Below.refl w.heap.size w)
 have H0 := Aside0.mk H
 have BKr := Aside0.mk H.1
 have HZ1 := Aside0.mk (show r < w.heap.size from blk_lt H.1)
 clear H hm hm2 hd
 obtain ⟨hcr_0, hcr_1, hcr_2, hcr_3, -, hcr_5, -, -, -, hfr_0, hfr_1, hfr_2, hfr_3, -, hfr_5, -, -, -⟩ := cs9 BKr.out
 go_enter Try.func52, Try.ntmps52
 have tok1 : True := trivial
 go_wp2_with (first | (have _ := tok1; (with_reducible refine gate_dst (N := 3) rfl ?_); refine box_event rfl (N := 3) rfl (cs := #[.int .i64 x.f0, .int .i64 x.f1, .int .i64 x.f2, .slice B x.f3.length cc]) (t := 51) (by go_simp; try rfl) ?_; intro g3 hg w1 hbox hb; have hs : Below w.heap.size w w1 := below_step Lt8.b hb; have SZ1 := Aside0.mk (show w.heap.size ≤ g3 ∧ g3 < w1.heap.size from ⟨by rw [hg]; exact (below_size Lt8.b), blk_lt hbox⟩); (try clear hcr_0 hfr_0 hcr_1 hfr_1 hcr_2 hfr_2 hcr_3 hfr_3 hcr_5 hfr_5); replace BKr := bb BKr hs; replace HB := hbs HB hs; have q0_ := HZ1.out; have q1_ := SZ1.out; have hner_g3 : r ≠ g3 := (by omega); have hneg3_r := hner_g3.symm; clear q0_ q1_; have BKg3 := Aside0.mk hbox; clear hb hbox hg hs; obtain ⟨hcr_0, hcr_1, hcr_2, hcr_3, -, hcr_5, -, -, -, hfr_0, hfr_1, hfr_2, hfr_3, -, hfr_5, -, -, -⟩ := cs9 BKr.out; obtain ⟨⟨hcg3_0, hfg3_0⟩, ⟨hcg3_1, hfg3_1⟩, ⟨hcg3_2, hfg3_2⟩, ⟨hcg3_3, hfg3_3⟩⟩ := cells4 BKg3.out; clear tok1))
 (try clear hcr_0 hfr_0 hcr_1 hfr_1 hcr_2 hfr_2 hcr_3 hfr_3 hcr_5 hfr_5)
 (try clear hcg3_0 hfg3_0 hcg3_1 hfg3_1 hcg3_2 hfg3_2 hcg3_3 hfg3_3)
 have hs : Below w1.heap.size w1 (World.drew w1) := below_drew1 (Below.refl _ _)
 have SZ2 := Aside0.mk (show w1.heap.size ≤ (World.drew w1).heap.size from hs.size)
 replace BKr := bb BKr hs
 replace BKg3 := bb BKg3 hs
 replace HB := Aside0.mk (below_step HB.out hs)
 clear hs
 refine start_ (n := 13) (S := fun w' => w'.cell? ⟨r, 0, none⟩ = some (.int .i64 a) ∧ w'.cell? ⟨r, 1, none⟩ = some (.int .i64 b) ∧ w'.cell? ⟨r, 2, none⟩ = some (.int .i64 c) ∧ w'.cell? ⟨r, 3, none⟩ = some (.int .i64 d) ∧ w'.cell? ⟨r, 5, none⟩ = some (.bool false) ∧ w'.cell? ⟨g3, 0, none⟩ = some (.int .i64 x.f0) ∧ w'.cell? ⟨g3, 1, none⟩ = some (.int .i64 x.f1) ∧ w'.cell? ⟨g3, 2, none⟩ = some (.int .i64 x.f2) ∧ w'.cell? ⟨g3, 3, none⟩ = some (.slice B x.f3.length cc)) (ds := []) #[O,O,O,O,O,O,O,O,O,O,O,O,O] (by kernel_rfl) rfl rfl ⟨(blk_cell BKr.out 0).trans rfl, (blk_cell BKr.out 1).trans rfl, (blk_cell BKr.out 2).trans rfl, (blk_cell BKr.out 3).trans rfl, (blk_cell BKr.out 5).trans rfl, (blk_cell BKg3.out 0).trans rfl, (blk_cell BKg3.out 1).trans rfl, (blk_cell BKg3.out 2).trans rfl, (blk_cell BKg3.out 3).trans rfl⟩ (fun hHeld => ?_)
 generalize World.drew w1 = w2 at HB BKr BKg3 SZ2 hHeld ⊢
 refine pv 0 10 ?_ #[X,O,O,O,O,O,O,O,O,O,O,O,O] rfl rfl (by kernel_rfl) (fun _ _ _ h => h) ⟨by rfl, ?_⟩ ?_ ?_ ?_; rotate_left; (intro w'; go_simp; with_reducible rfl); rotate_left; (simp only [sP]; rfl)
 refine pv 1 11 ?_ #[X,X,O,O,O,O,O,O,O,O,O,O,O] rfl rfl (by kernel_rfl) (fun _ _ _ h => h) ⟨by rfl, ?_⟩ ?_ ?_ ?_; rotate_left; (intro w'; go_simp; with_reducible rfl); rotate_left; (simp only [sP]; rfl)
 refine pv 2 12 ?_ #[X,X,X,O,O,O,O,O,O,O,O,O,O] rfl rfl (by kernel_rfl) (fun _ _ _ h => h) ⟨by rfl, ?_⟩ ?_ ?_ ?_; rotate_left; (intro w'; go_simp; with_reducible rfl); rotate_left; (simp only [sP]; rfl)
 refine pv 3 13 ?_ #[X,X,X,X,O,O,O,O,O,O,O,O,O] rfl rfl (by kernel_rfl) (fun _ _ _ h => h) ⟨by rfl, ?_⟩ ?_ ?_ ?_; rotate_left; (intro w'; go_simp; with_reducible rfl); rotate_left; (simp only [sP]; rfl)
 refine pv 5 15 ?_ #[X,X,X,X,O,X,O,O,O,O,O,O,O] rfl rfl (by kernel_rfl) (fun _ _ _ h => h) ⟨by rfl, ?_⟩ ?_ ?_ ?_; rotate_left; (intro w'; go_simp; with_reducible rfl); rotate_left; (simp only [sP]; rfl)
 refine pv 7 17 ?_ #[X,X,X,X,O,X,O,X,O,O,O,O,O] rfl rfl (by kernel_rfl) (fun _ _ _ h => h) ⟨by rfl, ?_⟩ ?_ ?_ ?_; rotate_left; (intro w'; go_simp; with_reducible rfl); rotate_left; (simp only [sP]; rfl)
 refine pv 9 19 ?_ #[X,X,X,X,O,X,O,X,O,X,O,O,O] rfl rfl (by kernel_rfl) (fun _ _ _ h => h) ⟨by rfl, ?_⟩ ?_ ?_ ?_; rotate_left; (intro w'; go_simp; with_reducible rfl); rotate_left; (simp only [sP]; rfl)
 refine tv 4 14 ?_ #[X,X,X,X,X,X,O,X,O,X,O,O,O] rfl rfl (by kernel_rfl) (fun _ _ _ h => h) ⟨by rfl, ?_⟩ hHeld ?_ ?_ ?_; rotate_left; (rintro w' ⟨s0, s1, s2, s3, s4, s5, s6, s7, s8⟩; go_simp; with_reducible rfl); rotate_left; (simp only [sP]; rfl)
 refine tv 6 16 ?_ #[X,X,X,X,X,X,X,X,O,X,O,O,O] rfl rfl (by kernel_rfl) (fun _ _ _ h => h) ⟨by rfl, ?_⟩ hHeld ?_ ?_ ?_; rotate_left; (rintro w' ⟨s0, s1, s2, s3, s4, s5, s6, s7, s8⟩; go_simp; with_reducible rfl); rotate_left; (simp only [sP]; rfl)
 refine tv 8 18 ?_ #[X,X,X,X,X,X,X,X,X,X,O,O,O] rfl rfl (by kernel_rfl) (fun _ _ _ h => h) ⟨by rfl, ?_⟩ hHeld ?_ ?_ ?_; rotate_left; (rintro w' ⟨s0, s1, s2, s3, s4, s5, s6, s7, s8⟩; go_simp; with_reducible rfl); rotate_left; (simp only [sP]; rfl)
 refine tv 10 20 ?_ #[X,X,X,X,X,X,X,X,X,X,X,O,O] rfl rfl (by kernel_rfl) (fun _ _ _ h => h) ⟨by rfl, ?_⟩ hHeld ?_ ?_ ?_; rotate_left; (rintro w' ⟨s0, s1, s2, s3, s4, s5, s6, s7, s8⟩; go_simp; with_reducible rfl); rotate_left; (simp only [sP]; rfl)
 refine one_ (i := 11) (N := some 21) #[X,X,X,X,X,X,X,X,X,X,X,X,O] rfl rfl (by kernel_rfl) (by decide) (fun K hK => ?_)
 refine goes_ Try.func53 (by kernel_rfl) rfl #[.agg #[.int .i64 a, .int .i64 b, .int .i64 c, .int .i64 d], .int .i64 x.f0, .int .i64 x.f1, .int .i64 x.f2] (by rfl) rfl rfl (by simp only [List.map_toArray, List.map_cons, List.map_nil]; rfl) ?_
 with_reducible refine (twoslotref08_There.calls a b c d x.f0 x.f1 x.f2 (atOf m d x.f0 x.f1 x.f2) _ HTE.out).mono ?_
 rintro e w3 ⟨rfl, hb⟩
 refine ⟨_, rfl, ?_⟩
 have hs : Below w2.heap.size w2 w3 := below_step Lt8.b hb
 skip
 have SZ3 := Aside0.mk (show w2.heap.size ≤ w3.heap.size from hs.size)
 replace BKr := bb BKr hs
 replace BKg3 := bb BKg3 hs
 replace HB := Aside0.mk (below_step HB.out hs)
 clear hs hb
 (try clear hl)
 refine hK.out _ _ ⟨(blk_cell BKr.out 0).trans rfl, (blk_cell BKr.out 1).trans rfl, (blk_cell BKr.out 2).trans rfl, (blk_cell BKr.out 3).trans rfl, (blk_cell BKr.out 5).trans rfl, (blk_cell BKg3.out 0).trans rfl, (blk_cell BKg3.out 1).trans rfl, (blk_cell BKg3.out 2).trans rfl, (blk_cell BKg3.out 3).trans rfl⟩ (fun hHeld => ?_)
 clear hK K
 refine norm_ (a' := ?_) ?_ ?_
 rotate_left
 ·
  show Act.put _ (some 21) _ = _
  simp only [sP]
  rfl
 refine pv 12 5 ?_ #[X,X,X,X,X,X,X,X,X,X,X,X,X] rfl rfl (by kernel_rfl) (fun _ _ _ h => h) ⟨by rfl, ?_⟩ ?_ ?_ ?_; rotate_left; (intro w'; go_simp; with_reducible rfl); rotate_left; (simp only [sP]; rfl)
 refine done_ (by kernel_rfl) ?_
 obtain ⟨hcr_0, hcr_1, hcr_2, hcr_3, -, hcr_5, -, -, -, hfr_0, hfr_1, hfr_2, hfr_3, -, hfr_5, -, -, -⟩ := cs9 BKr.out
 obtain ⟨⟨hcg3_0, hfg3_0⟩, ⟨hcg3_1, hfg3_1⟩, ⟨hcg3_2, hfg3_2⟩, ⟨hcg3_3, hfg3_3⟩⟩ := cells4 BKg3.out
 go_wp2_with (fail)
 (try clear hcr_0 hfr_0 hcr_1 hfr_1 hcr_2 hfr_2 hcr_3 hfr_3 hcr_5 hfr_5)
 (try clear hcg3_0 hfg3_0 hcg3_1 hfg3_1 hcg3_2 hfg3_2 hcg3_3 hfg3_3)
 have hs : Below w3.heap.size w3 (World.drew w3) := below_drew1 (Below.refl _ _)
 have SZ4 := Aside0.mk (show w3.heap.size ≤ (World.drew w3).heap.size from hs.size)
 replace BKr := bb BKr hs
 replace BKg3 := bb BKg3 hs
 replace HB := Aside0.mk (below_step HB.out hs)
 clear hs
 refine start_ (n := 14) (S := fun w' => w'.cell? ⟨r, 0, none⟩ = some (.int .i64 a) ∧ w'.cell? ⟨r, 1, none⟩ = some (.int .i64 b) ∧ w'.cell? ⟨r, 2, none⟩ = some (.int .i64 c) ∧ w'.cell? ⟨r, 3, none⟩ = some (.int .i64 d) ∧ w'.cell? ⟨r, 5, none⟩ = some (.bool false) ∧ w'.cell? ⟨g3, 0, none⟩ = some (.int .i64 x.f0) ∧ w'.cell? ⟨g3, 1, none⟩ = some (.int .i64 x.f1) ∧ w'.cell? ⟨g3, 2, none⟩ = some (.int .i64 x.f2) ∧ w'.cell? ⟨g3, 3, none⟩ = some (.slice B x.f3.length cc)) (ds := []) #[O,O,O,O,O,O,O,O,O,O,O,O,O,O] (by kernel_rfl) rfl rfl ⟨(blk_cell BKr.out 0).trans rfl, (blk_cell BKr.out 1).trans rfl, (blk_cell BKr.out 2).trans rfl, (blk_cell BKr.out 3).trans rfl, (blk_cell BKr.out 5).trans rfl, (blk_cell BKg3.out 0).trans rfl, (blk_cell BKg3.out 1).trans rfl, (blk_cell BKg3.out 2).trans rfl, (blk_cell BKg3.out 3).trans rfl⟩ (fun hHeld => ?_)
 generalize World.drew w3 = w4 at HB BKr BKg3 SZ4 hHeld ⊢
 refine pv 0 22 ?_ #[X,O,O,O,O,O,O,O,O,O,O,O,O,O] rfl rfl (by kernel_rfl) (fun _ _ _ h => h) ⟨by rfl, ?_⟩ ?_ ?_ ?_; rotate_left; (intro w'; go_simp; with_reducible rfl); rotate_left; (simp only [sP]; rfl)
 refine pv 1 23 ?_ #[X,X,O,O,O,O,O,O,O,O,O,O,O,O] rfl rfl (by kernel_rfl) (fun _ _ _ h => h) ⟨by rfl, ?_⟩ ?_ ?_ ?_; rotate_left; (intro w'; go_simp; with_reducible rfl); rotate_left; (simp only [sP]; rfl)
 refine pv 2 24 ?_ #[X,X,X,O,O,O,O,O,O,O,O,O,O,O] rfl rfl (by kernel_rfl) (fun _ _ _ h => h) ⟨by rfl, ?_⟩ ?_ ?_ ?_; rotate_left; (intro w'; go_simp; with_reducible rfl); rotate_left; (simp only [sP]; rfl)
 refine pure_ (i := 3) (N := some 25) (v := undef) (a' := ?_) #[X,X,X,X,O,O,O,O,O,O,O,O,O,O] rfl rfl (by kernel_rfl) (fun _ _ _ h => h) (Or.inr ⟨by rfl, rfl⟩) ?_ ?_
 rotate_left
 ·
  simp only [sP]
  rfl
 refine pure_ (i := 4) (N := some 26) (v := undef) (a' := ?_) #[X,X,X,X,X,O,O,O,O,O,O,O,O,O] rfl rfl (by kernel_rfl) (fun _ _ _ h => h) (Or.inr ⟨by rfl, rfl⟩) ?_ ?_
 rotate_left
 ·
  simp only [sP]
  rfl
 refine pure_ (i := 5) (N := some 27) (v := undef) (a' := ?_) #[X,X,X,X,X,X,O,O,O,O,O,O,O,O] rfl rfl (by kernel_rfl) (fun _ _ _ h => h) (Or.inr ⟨by rfl, rfl⟩) ?_ ?_
 rotate_left
 ·
  simp only [sP]
  rfl
 refine pure_ (i := 6) (N := some 28) (v := undef) (a' := ?_) #[X,X,X,X,X,X,X,O,O,O,O,O,O,O] rfl rfl (by kernel_rfl) (fun _ _ _ h => h) (Or.inr ⟨by rfl, rfl⟩) ?_ ?_
 rotate_left
 ·
  simp only [sP]
  rfl
 refine pure_ (i := 7) (N := some 29) (v := undef) (a' := ?_) #[X,X,X,X,X,X,X,X,O,O,O,O,O,O] rfl rfl (by kernel_rfl) (fun _ _ _ h => h) (Or.inr ⟨by rfl, rfl⟩) ?_ ?_
 rotate_left
 ·
  simp only [sP]
  rfl
 refine pure_ (i := 8) (N := some 30) (v := undef) (a' := ?_) #[X,X,X,X,X,X,X,X,X,O,O,O,O,O] rfl rfl (by kernel_rfl) (fun _ _ _ h => h) (Or.inr ⟨by rfl, rfl⟩) ?_ ?_
 rotate_left
 ·
  simp only [sP]
  rfl
 refine pure_ (i := 9) (N := some 31) (v := undef) (a' := ?_) #[X,X,X,X,X,X,X,X,X,X,O,O,O,O] rfl rfl (by kernel_rfl) (fun _ _ _ h => h) (Or.inr ⟨by rfl, rfl⟩) ?_ ?_
 rotate_left
 ·
  simp only [sP]
  rfl
 refine pure_ (i := 10) (N := some 32) (v := undef) (a' := ?_) #[X,X,X,X,X,X,X,X,X,X,X,O,O,O] rfl rfl (by kernel_rfl) (fun _ _ _ h => h) (Or.inr ⟨by rfl, rfl⟩) ?_ ?_
 rotate_left
 ·
  simp only [sP]
  rfl
 refine pure_ (i := 11) (N := some 33) (v := undef) (a' := ?_) #[X,X,X,X,X,X,X,X,X,X,X,X,O,O] rfl rfl (by kernel_rfl) (fun _ _ _ h => h) (Or.inr ⟨by rfl, rfl⟩) ?_ ?_
 rotate_left
 ·
  simp only [sP]
  rfl
 refine pure_ (i := 12) (N := some 34) (v := undef) (a' := ?_) #[X,X,X,X,X,X,X,X,X,X,X,X,X,O] rfl rfl (by kernel_rfl) (fun _ _ _ h => h) (Or.inr ⟨by rfl, rfl⟩) ?_ ?_
 rotate_left
 ·
  simp only [sP]
  rfl
 refine pv 13 35 ?_ #[X,X,X,X,X,X,X,X,X,X,X,X,X,X] rfl rfl (by kernel_rfl) (fun _ _ _ h => h) ⟨by rfl, ?_⟩ ?_ ?_ ?_; rotate_left; (intro w'; go_simp; with_reducible rfl); rotate_left; (simp only [sP]; rfl)
 refine done_ (by kernel_rfl) ?_
 obtain ⟨hcr_0, hcr_1, hcr_2, hcr_3, -, hcr_5, -, -, -, hfr_0, hfr_1, hfr_2, hfr_3, -, hfr_5, -, -, -⟩ := cs9 BKr.out
 obtain ⟨⟨hcg3_0, hfg3_0⟩, ⟨hcg3_1, hfg3_1⟩, ⟨hcg3_2, hfg3_2⟩, ⟨hcg3_3, hfg3_3⟩⟩ := cells4 BKg3.out
 go_wp2_with (fail)
 first | go_ret | go_ret2
 exact ⟨rfl, (H0.out.below HB.out).gr H0.out.low (fun k hk => .inl hk) H0.out.base_, (Wrote.start H0.out.low).below HB.out⟩
set_option maxHeartbeats 8000000 in
set_option maxRecDepth 100000 in
theorem RWrite_len (r : Nat) (As Ag : Option Addr) (n cs m cg : Nat) (a b c d : Int) (slots : List (List Int)) (gone : List Bool) (off : Bool) (cut wr : Int) (base : Nat) (ok : Nat → Prop) (x : S51) (B : Option Addr) (cc : Nat) (w : World) (H : RefO w base ok r As n cs Ag m cg a b c d slots gone off cut wr) (hm : (m : Int) = a + b) (hm2 : m ≤ 16) (hd : 0 ≤ d ∧ d ≤ 4096) (ho : off = false) (hat : 0 ≤ atOf m d x.f0 x.f1 x.f2) (hl : (x.f3.length : Int) ≠ sizeOf08 a b c) : Calls Try.prog 52 #[.pointer (some ⟨r, 0, none⟩), .agg #[.int .i64 x.f0, .int .i64 x.f1, .int .i64 x.f2, .slice B x.f3.length cc]] w fun e w' => e = .returned (.int .i64 80) ∧ RefO w' base (Gr ok w w') r As n cs Ag m cg a b c d slots gone false cut wr ∧ Wrote base ok w w' := by
 have hu23 := Try.underlying23
 have hu51 := Try.underlying51
 have hu80 := Try.underlying80
 have hu36 := Try.underlying36
 subst ho
 have d1 : decide (atOf m d x.f0 x.f1 x.f2 < 0) = false := decide_eq_false (by omega)
 have d2 : ((x.f3.length : Int) == sizeOf08 a b c) = false := beq_false_of_ne hl
 have d3 : decide ((x.f3.length : Int) = sizeOf08 a b c) = false := decide_eq_false hl
 clear hat hl
 have HTE := Aside0.mk (there_ev (c := c) hm hm2 hd x.f0 x.f1 x.f2)
 have HSE := Aside0.mk (size8_ev (c := c) (d := d) hm hm2)
 have HB := Aside0.mk (Below.refl w.heap.size w)
 have H0 := Aside0.mk H
 have BKr := Aside0.mk H.1
 have HZ1 := Aside0.mk (show r < w.heap.size from blk_lt H.1)
 clear H hm hm2 hd
 obtain ⟨hcr_0, hcr_1, hcr_2, hcr_3, -, hcr_5, -, -, -, hfr_0, hfr_1, hfr_2, hfr_3, -, hfr_5, -, -, -⟩ := cs9 BKr.out
 go_enter Try.func52, Try.ntmps52
 have tok1 : True := trivial
 go_wp2_with (first | (have _ := tok1; (with_reducible refine gate_dst (N := 3) rfl ?_); refine box_event rfl (N := 3) rfl (cs := #[.int .i64 x.f0, .int .i64 x.f1, .int .i64 x.f2, .slice B x.f3.length cc]) (t := 51) (by go_simp; try rfl) ?_; intro g3 hg w1 hbox hb; have hs : Below w.heap.size w w1 := below_step Lt8.b hb; have SZ1 := Aside0.mk (show w.heap.size ≤ g3 ∧ g3 < w1.heap.size from ⟨by rw [hg]; exact (below_size Lt8.b), blk_lt hbox⟩); (try clear hcr_0 hfr_0 hcr_1 hfr_1 hcr_2 hfr_2 hcr_3 hfr_3 hcr_5 hfr_5); replace BKr := bb BKr hs; replace HB := hbs HB hs; have q0_ := HZ1.out; have q1_ := SZ1.out; have hner_g3 : r ≠ g3 := (by omega); have hneg3_r := hner_g3.symm; clear q0_ q1_; have BKg3 := Aside0.mk hbox; clear hb hbox hg hs; obtain ⟨hcr_0, hcr_1, hcr_2, hcr_3, -, hcr_5, -, -, -, hfr_0, hfr_1, hfr_2, hfr_3, -, hfr_5, -, -, -⟩ := cs9 BKr.out; obtain ⟨⟨hcg3_0, hfg3_0⟩, ⟨hcg3_1, hfg3_1⟩, ⟨hcg3_2, hfg3_2⟩, ⟨hcg3_3, hfg3_3⟩⟩ := cells4 BKg3.out; clear tok1))
 (try clear hcr_0 hfr_0 hcr_1 hfr_1 hcr_2 hfr_2 hcr_3 hfr_3 hcr_5 hfr_5)
 (try clear hcg3_0 hfg3_0 hcg3_1 hfg3_1 hcg3_2 hfg3_2 hcg3_3 hfg3_3)
 have hs : Below w1.heap.size w1 (World.drew w1) := below_drew1 (Below.refl _ _)
 have SZ2 := Aside0.mk (show w1.heap.size ≤ (World.drew w1).heap.size from hs.size)
 replace BKr := bb BKr hs
 replace BKg3 := bb BKg3 hs
 replace HB := Aside0.mk (below_step HB.out hs)
 clear hs
 refine start_ (n := 13) (S := fun w' => w'.cell? ⟨r, 0, none⟩ = some (.int .i64 a) ∧ w'.cell? ⟨r, 1, none⟩ = some (.int .i64 b) ∧ w'.cell? ⟨r, 2, none⟩ = some (.int .i64 c) ∧ w'.cell? ⟨r, 3, none⟩ = some (.int .i64 d) ∧ w'.cell? ⟨r, 5, none⟩ = some (.bool false) ∧ w'.cell? ⟨g3, 0, none⟩ = some (.int .i64 x.f0) ∧ w'.cell? ⟨g3, 1, none⟩ = some (.int .i64 x.f1) ∧ w'.cell? ⟨g3, 2, none⟩ = some (.int .i64 x.f2) ∧ w'.cell? ⟨g3, 3, none⟩ = some (.slice B x.f3.length cc)) (ds := []) #[O,O,O,O,O,O,O,O,O,O,O,O,O] (by kernel_rfl) rfl rfl ⟨(blk_cell BKr.out 0).trans rfl, (blk_cell BKr.out 1).trans rfl, (blk_cell BKr.out 2).trans rfl, (blk_cell BKr.out 3).trans rfl, (blk_cell BKr.out 5).trans rfl, (blk_cell BKg3.out 0).trans rfl, (blk_cell BKg3.out 1).trans rfl, (blk_cell BKg3.out 2).trans rfl, (blk_cell BKg3.out 3).trans rfl⟩ (fun hHeld => ?_)
 generalize World.drew w1 = w2 at HB BKr BKg3 SZ2 hHeld ⊢
 refine pv 0 10 ?_ #[X,O,O,O,O,O,O,O,O,O,O,O,O] rfl rfl (by kernel_rfl) (fun _ _ _ h => h) ⟨by rfl, ?_⟩ ?_ ?_ ?_; rotate_left; (intro w'; go_simp; with_reducible rfl); rotate_left; (simp only [sP]; rfl)
 refine pv 1 11 ?_ #[X,X,O,O,O,O,O,O,O,O,O,O,O] rfl rfl (by kernel_rfl) (fun _ _ _ h => h) ⟨by rfl, ?_⟩ ?_ ?_ ?_; rotate_left; (intro w'; go_simp; with_reducible rfl); rotate_left; (simp only [sP]; rfl)
 refine pv 2 12 ?_ #[X,X,X,O,O,O,O,O,O,O,O,O,O] rfl rfl (by kernel_rfl) (fun _ _ _ h => h) ⟨by rfl, ?_⟩ ?_ ?_ ?_; rotate_left; (intro w'; go_simp; with_reducible rfl); rotate_left; (simp only [sP]; rfl)
 refine pv 3 13 ?_ #[X,X,X,X,O,O,O,O,O,O,O,O,O] rfl rfl (by kernel_rfl) (fun _ _ _ h => h) ⟨by rfl, ?_⟩ ?_ ?_ ?_; rotate_left; (intro w'; go_simp; with_reducible rfl); rotate_left; (simp only [sP]; rfl)
 refine pv 5 15 ?_ #[X,X,X,X,O,X,O,O,O,O,O,O,O] rfl rfl (by kernel_rfl) (fun _ _ _ h => h) ⟨by rfl, ?_⟩ ?_ ?_ ?_; rotate_left; (intro w'; go_simp; with_reducible rfl); rotate_left; (simp only [sP]; rfl)
 refine pv 7 17 ?_ #[X,X,X,X,O,X,O,X,O,O,O,O,O] rfl rfl (by kernel_rfl) (fun _ _ _ h => h) ⟨by rfl, ?_⟩ ?_ ?_ ?_; rotate_left; (intro w'; go_simp; with_reducible rfl); rotate_left; (simp only [sP]; rfl)
 refine pv 9 19 ?_ #[X,X,X,X,O,X,O,X,O,X,O,O,O] rfl rfl (by kernel_rfl) (fun _ _ _ h => h) ⟨by rfl, ?_⟩ ?_ ?_ ?_; rotate_left; (intro w'; go_simp; with_reducible rfl); rotate_left; (simp only [sP]; rfl)
 refine tv 4 14 ?_ #[X,X,X,X,X,X,O,X,O,X,O,O,O] rfl rfl (by kernel_rfl) (fun _ _ _ h => h) ⟨by rfl, ?_⟩ hHeld ?_ ?_ ?_; rotate_left; (rintro w' ⟨s0, s1, s2, s3, s4, s5, s6, s7, s8⟩; go_simp; with_reducible rfl); rotate_left; (simp only [sP]; rfl)
 refine tv 6 16 ?_ #[X,X,X,X,X,X,X,X,O,X,O,O,O] rfl rfl (by kernel_rfl) (fun _ _ _ h => h) ⟨by rfl, ?_⟩ hHeld ?_ ?_ ?_; rotate_left; (rintro w' ⟨s0, s1, s2, s3, s4, s5, s6, s7, s8⟩; go_simp; with_reducible rfl); rotate_left; (simp only [sP]; rfl)
 refine tv 8 18 ?_ #[X,X,X,X,X,X,X,X,X,X,O,O,O] rfl rfl (by kernel_rfl) (fun _ _ _ h => h) ⟨by rfl, ?_⟩ hHeld ?_ ?_ ?_; rotate_left; (rintro w' ⟨s0, s1, s2, s3, s4, s5, s6, s7, s8⟩; go_simp; with_reducible rfl); rotate_left; (simp only [sP]; rfl)
 refine tv 10 20 ?_ #[X,X,X,X,X,X,X,X,X,X,X,O,O] rfl rfl (by kernel_rfl) (fun _ _ _ h => h) ⟨by rfl, ?_⟩ hHeld ?_ ?_ ?_; rotate_left; (rintro w' ⟨s0, s1, s2, s3, s4, s5, s6, s7, s8⟩; go_simp; with_reducible rfl); rotate_left; (simp only [sP]; rfl)
 refine one_ (i := 11) (N := some 21) #[X,X,X,X,X,X,X,X,X,X,X,X,O] rfl rfl (by kernel_rfl) (by decide) (fun K hK => ?_)
 refine goes_ Try.func53 (by kernel_rfl) rfl #[.agg #[.int .i64 a, .int .i64 b, .int .i64 c, .int .i64 d], .int .i64 x.f0, .int .i64 x.f1, .int .i64 x.f2] (by rfl) rfl rfl (by simp only [List.map_toArray, List.map_cons, List.map_nil]; rfl) ?_
 with_reducible refine (twoslotref08_There.calls a b c d x.f0 x.f1 x.f2 (atOf m d x.f0 x.f1 x.f2) _ HTE.out).mono ?_
 rintro e w3 ⟨rfl, hb⟩
 refine ⟨_, rfl, ?_⟩
 have hs : Below w2.heap.size w2 w3 := below_step Lt8.b hb
 skip
 have SZ3 := Aside0.mk (show w2.heap.size ≤ w3.heap.size from hs.size)
 replace BKr := bb BKr hs
 replace BKg3 := bb BKg3 hs
 replace HB := Aside0.mk (below_step HB.out hs)
 clear hs hb
 (try clear hl)
 refine hK.out _ _ ⟨(blk_cell BKr.out 0).trans rfl, (blk_cell BKr.out 1).trans rfl, (blk_cell BKr.out 2).trans rfl, (blk_cell BKr.out 3).trans rfl, (blk_cell BKr.out 5).trans rfl, (blk_cell BKg3.out 0).trans rfl, (blk_cell BKg3.out 1).trans rfl, (blk_cell BKg3.out 2).trans rfl, (blk_cell BKg3.out 3).trans rfl⟩ (fun hHeld => ?_)
 clear hK K
 refine norm_ (a' := ?_) ?_ ?_
 rotate_left
 ·
  show Act.put _ (some 21) _ = _
  simp only [sP]
  rfl
 refine pv 12 5 ?_ #[X,X,X,X,X,X,X,X,X,X,X,X,X] rfl rfl (by kernel_rfl) (fun _ _ _ h => h) ⟨by rfl, ?_⟩ ?_ ?_ ?_; rotate_left; (intro w'; go_simp; with_reducible rfl); rotate_left; (simp only [sP]; rfl)
 refine done_ (by kernel_rfl) ?_
 obtain ⟨hcr_0, hcr_1, hcr_2, hcr_3, -, hcr_5, -, -, -, hfr_0, hfr_1, hfr_2, hfr_3, -, hfr_5, -, -, -⟩ := cs9 BKr.out
 obtain ⟨⟨hcg3_0, hfg3_0⟩, ⟨hcg3_1, hfg3_1⟩, ⟨hcg3_2, hfg3_2⟩, ⟨hcg3_3, hfg3_3⟩⟩ := cells4 BKg3.out
 go_wp2_with (fail)
 (try clear hcr_0 hfr_0 hcr_1 hfr_1 hcr_2 hfr_2 hcr_3 hfr_3 hcr_5 hfr_5)
 (try clear hcg3_0 hfg3_0 hcg3_1 hfg3_1 hcg3_2 hfg3_2 hcg3_3 hfg3_3)
 have hs : Below w3.heap.size w3 (World.drew w3) := below_drew1 (Below.refl _ _)
 have SZ4 := Aside0.mk (show w3.heap.size ≤ (World.drew w3).heap.size from hs.size)
 replace BKr := bb BKr hs
 replace BKg3 := bb BKg3 hs
 replace HB := Aside0.mk (below_step HB.out hs)
 clear hs
 refine start_ (n := 14) (S := fun w' => w'.cell? ⟨r, 0, none⟩ = some (.int .i64 a) ∧ w'.cell? ⟨r, 1, none⟩ = some (.int .i64 b) ∧ w'.cell? ⟨r, 2, none⟩ = some (.int .i64 c) ∧ w'.cell? ⟨r, 3, none⟩ = some (.int .i64 d) ∧ w'.cell? ⟨r, 5, none⟩ = some (.bool false) ∧ w'.cell? ⟨g3, 0, none⟩ = some (.int .i64 x.f0) ∧ w'.cell? ⟨g3, 1, none⟩ = some (.int .i64 x.f1) ∧ w'.cell? ⟨g3, 2, none⟩ = some (.int .i64 x.f2) ∧ w'.cell? ⟨g3, 3, none⟩ = some (.slice B x.f3.length cc)) (ds := []) #[O,O,O,O,O,O,O,O,O,O,O,O,O,O] (by kernel_rfl) rfl rfl ⟨(blk_cell BKr.out 0).trans rfl, (blk_cell BKr.out 1).trans rfl, (blk_cell BKr.out 2).trans rfl, (blk_cell BKr.out 3).trans rfl, (blk_cell BKr.out 5).trans rfl, (blk_cell BKg3.out 0).trans rfl, (blk_cell BKg3.out 1).trans rfl, (blk_cell BKg3.out 2).trans rfl, (blk_cell BKg3.out 3).trans rfl⟩ (fun hHeld => ?_)
 generalize World.drew w3 = w4 at HB BKr BKg3 SZ4 hHeld ⊢
 refine pv 0 22 ?_ #[X,O,O,O,O,O,O,O,O,O,O,O,O,O] rfl rfl (by kernel_rfl) (fun _ _ _ h => h) ⟨by rfl, ?_⟩ ?_ ?_ ?_; rotate_left; (intro w'; go_simp; with_reducible rfl); rotate_left; (simp only [sP]; rfl)
 refine pv 1 23 ?_ #[X,X,O,O,O,O,O,O,O,O,O,O,O,O] rfl rfl (by kernel_rfl) (fun _ _ _ h => h) ⟨by rfl, ?_⟩ ?_ ?_ ?_; rotate_left; (intro w'; go_simp; with_reducible rfl); rotate_left; (simp only [sP]; rfl)
 refine pv 2 24 ?_ #[X,X,X,O,O,O,O,O,O,O,O,O,O,O] rfl rfl (by kernel_rfl) (fun _ _ _ h => h) ⟨by rfl, ?_⟩ ?_ ?_ ?_; rotate_left; (intro w'; go_simp; with_reducible rfl); rotate_left; (simp only [sP]; rfl)
 refine pv 3 25 ?_ #[X,X,X,X,O,O,O,O,O,O,O,O,O,O] rfl rfl (by kernel_rfl) (fun _ _ _ h => h) ⟨by rfl, ?_⟩ ?_ ?_ ?_; rotate_left; (intro w'; go_simp; with_reducible rfl); rotate_left; (simp only [sP]; rfl)
 refine pv 6 28 ?_ #[X,X,X,X,O,O,X,O,O,O,O,O,O,O] rfl rfl (by kernel_rfl) (fun _ _ _ h => h) ⟨by rfl, ?_⟩ ?_ ?_ ?_; rotate_left; (intro w'; go_simp; with_reducible rfl); rotate_left; (simp only [sP]; rfl)
 refine pv 7 29 ?_ #[X,X,X,X,O,O,X,X,O,O,O,O,O,O] rfl rfl (by kernel_rfl) (fun _ _ _ h => h) ⟨by rfl, ?_⟩ ?_ ?_ ?_; rotate_left; (intro w'; go_simp; with_reducible rfl); rotate_left; (simp only [sP]; rfl)
 refine pv 8 30 ?_ #[X,X,X,X,O,O,X,X,X,O,O,O,O,O] rfl rfl (by kernel_rfl) (fun _ _ _ h => h) ⟨by rfl, ?_⟩ ?_ ?_ ?_; rotate_left; (intro w'; go_simp; with_reducible rfl); rotate_left; (simp only [sP]; rfl)
 refine pv 9 31 ?_ #[X,X,X,X,O,O,X,X,X,X,O,O,O,O] rfl rfl (by kernel_rfl) (fun _ _ _ h => h) ⟨by rfl, ?_⟩ ?_ ?_ ?_; rotate_left; (intro w'; go_simp; with_reducible rfl); rotate_left; (simp only [sP]; rfl)
 refine tv 4 26 ?_ #[X,X,X,X,X,O,X,X,X,X,O,O,O,O] rfl rfl (by kernel_rfl) (fun _ _ _ h => h) ⟨by rfl, ?_⟩ hHeld ?_ ?_ ?_; rotate_left; (rintro w' ⟨s0, s1, s2, s3, s4, s5, s6, s7, s8⟩; go_simp; with_reducible rfl); rotate_left; (simp only [sP]; rfl)
 refine pv 5 27 ?_ #[X,X,X,X,X,X,X,X,X,X,O,O,O,O] rfl rfl (by kernel_rfl) (fun _ _ _ h => h) ⟨by rfl, ?_⟩ ?_ ?_ ?_; rotate_left; (intro w'; go_simp; with_reducible rfl); rotate_left; (simp only [sP]; rfl)
 refine tv 10 32 ?_ #[X,X,X,X,X,X,X,X,X,X,X,O,O,O] rfl rfl (by kernel_rfl) (fun _ _ _ h => h) ⟨by rfl, ?_⟩ hHeld ?_ ?_ ?_; rotate_left; (rintro w' ⟨s0, s1, s2, s3, s4, s5, s6, s7, s8⟩; go_simp; with_reducible rfl); rotate_left; (simp only [sP]; rfl)
 refine one_ (i := 11) (N := some 33) #[X,X,X,X,X,X,X,X,X,X,X,X,O,O] rfl rfl (by kernel_rfl) (by decide) (fun K hK => ?_)
 refine goes_ Try.func51 (by kernel_rfl) rfl #[.agg #[.int .i64 a, .int .i64 b, .int .i64 c, .int .i64 d]] (by rfl) rfl rfl (by simp only [List.map_toArray, List.map_cons, List.map_nil]; rfl) ?_
 with_reducible refine (twoslotref06_Size.calls a b c d (sizeOf08 a b c) _ HSE.out).mono ?_
 rintro e w5 ⟨rfl, hb⟩
 refine ⟨_, rfl, ?_⟩
 have hs : Below w4.heap.size w4 w5 := below_step Lt8.b hb
 skip
 have SZ5 := Aside0.mk (show w4.heap.size ≤ w5.heap.size from hs.size)
 replace BKr := bb BKr hs
 replace BKg3 := bb BKg3 hs
 replace HB := Aside0.mk (below_step HB.out hs)
 clear hs hb
 (try clear hl)
 refine hK.out _ _ ⟨(blk_cell BKr.out 0).trans rfl, (blk_cell BKr.out 1).trans rfl, (blk_cell BKr.out 2).trans rfl, (blk_cell BKr.out 3).trans rfl, (blk_cell BKr.out 5).trans rfl, (blk_cell BKg3.out 0).trans rfl, (blk_cell BKg3.out 1).trans rfl, (blk_cell BKg3.out 2).trans rfl, (blk_cell BKg3.out 3).trans rfl⟩ (fun hHeld => ?_)
 clear hK K
 refine norm_ (a' := ?_) ?_ ?_
 rotate_left
 ·
  show Act.put _ (some 33) _ = _
  simp only [sP]
  rfl
 refine pv 12 34 ?_ #[X,X,X,X,X,X,X,X,X,X,X,X,X,O] rfl rfl (by kernel_rfl) (fun _ _ _ h => h) ⟨by rfl, ?_⟩ ?_ ?_ ?_; rotate_left; (intro w'; go_simp; with_reducible rfl); rotate_left; (simp only [sP]; rfl)
 refine pv 13 35 ?_ #[X,X,X,X,X,X,X,X,X,X,X,X,X,X] rfl rfl (by kernel_rfl) (fun _ _ _ h => h) ⟨by rfl, ?_⟩ ?_ ?_ ?_; rotate_left; (intro w'; go_simp; with_reducible rfl); rotate_left; (simp only [sP]; rfl)
 refine done_ (by kernel_rfl) ?_
 obtain ⟨hcr_0, hcr_1, hcr_2, hcr_3, -, hcr_5, -, -, -, hfr_0, hfr_1, hfr_2, hfr_3, -, hfr_5, -, -, -⟩ := cs9 BKr.out
 obtain ⟨⟨hcg3_0, hfg3_0⟩, ⟨hcg3_1, hfg3_1⟩, ⟨hcg3_2, hfg3_2⟩, ⟨hcg3_3, hfg3_3⟩⟩ := cells4 BKg3.out
 go_wp2_with (fail)
 first | go_ret | go_ret2
 exact ⟨rfl, (H0.out.below HB.out).gr H0.out.low (fun k hk => .inl hk) H0.out.base_, (Wrote.start H0.out.low).below HB.out⟩
set_option maxHeartbeats 8000000 in
set_option maxRecDepth 100000 in
theorem RWrite_cut (r : Nat) (As Ag : Option Addr) (n cs m cg : Nat) (a b c d : Int) (slots : List (List Int)) (gone : List Bool) (off : Bool) (cut wr : Int) (base : Nat) (ok : Nat → Prop) (x : S51) (B : Option Addr) (cc : Nat) (w : World) (H : RefO w base ok r As n cs Ag m cg a b c d slots gone off cut wr) (hm : (m : Int) = a + b) (hm2 : m ≤ 16) (hd : 0 ≤ d ∧ d ≤ 4096) (ho : off = false) (hat : 0 ≤ atOf m d x.f0 x.f1 x.f2) (hl : (x.f3.length : Int) = sizeOf08 a b c) (hc : cut = 0) : Calls Try.prog 52 #[.pointer (some ⟨r, 0, none⟩), .agg #[.int .i64 x.f0, .int .i64 x.f1, .int .i64 x.f2, .slice B x.f3.length cc]] w fun e w' => e = .returned (.int .i64 9) ∧ RefO w' base (Gr ok w w') r As n cs Ag m cg a b c d slots gone true (-1) wr ∧ Wrote base ok w w' := by
 have hu23 := Try.underlying23
 have hu51 := Try.underlying51
 have hu80 := Try.underlying80
 have hu36 := Try.underlying36
 subst ho
 subst hc
 have d1 : decide (atOf m d x.f0 x.f1 x.f2 < 0) = false := decide_eq_false (by omega)
 have d2 : ((x.f3.length : Int) == sizeOf08 a b c) = true := beq_iff_eq.mpr hl
 have d3 : decide ((x.f3.length : Int) = sizeOf08 a b c) = true := decide_eq_true hl
 clear hat hl
 have HTE := Aside0.mk (there_ev (c := c) hm hm2 hd x.f0 x.f1 x.f2)
 have HSE := Aside0.mk (size8_ev (c := c) (d := d) hm hm2)
 have HB := Aside0.mk (Below.refl w.heap.size w)
 have H0 := Aside0.mk H
 have BKr := Aside0.mk H.1
 have HZ1 := Aside0.mk (show r < w.heap.size from blk_lt H.1)
 clear H hm hm2 hd
 obtain ⟨hcr_0, hcr_1, hcr_2, hcr_3, -, hcr_5, hcr_6, -, -, hfr_0, hfr_1, hfr_2, hfr_3, -, hfr_5, hfr_6, -, -⟩ := cs9 BKr.out
 go_enter Try.func52, Try.ntmps52
 have tok1 : True := trivial
 go_wp2_with (first | (have _ := tok1; (with_reducible refine gate_dst (N := 3) rfl ?_); refine box_event rfl (N := 3) rfl (cs := #[.int .i64 x.f0, .int .i64 x.f1, .int .i64 x.f2, .slice B x.f3.length cc]) (t := 51) (by go_simp; try rfl) ?_; intro g3 hg w1 hbox hb; have hs : Below w.heap.size w w1 := below_step Lt8.b hb; have SZ1 := Aside0.mk (show w.heap.size ≤ g3 ∧ g3 < w1.heap.size from ⟨by rw [hg]; exact (below_size Lt8.b), blk_lt hbox⟩); (try clear hcr_0 hfr_0 hcr_1 hfr_1 hcr_2 hfr_2 hcr_3 hfr_3 hcr_5 hfr_5 hcr_6 hfr_6); replace BKr := bb BKr hs; replace HB := hbs HB hs; have q0_ := HZ1.out; have q1_ := SZ1.out; have hner_g3 : r ≠ g3 := (by omega); have hneg3_r := hner_g3.symm; clear q0_ q1_; have BKg3 := Aside0.mk hbox; clear hb hbox hg hs; obtain ⟨hcr_0, hcr_1, hcr_2, hcr_3, -, hcr_5, hcr_6, -, -, hfr_0, hfr_1, hfr_2, hfr_3, -, hfr_5, hfr_6, -, -⟩ := cs9 BKr.out; obtain ⟨⟨hcg3_0, hfg3_0⟩, ⟨hcg3_1, hfg3_1⟩, ⟨hcg3_2, hfg3_2⟩, ⟨hcg3_3, hfg3_3⟩⟩ := cells4 BKg3.out; clear tok1))
 (try clear hcr_0 hfr_0 hcr_1 hfr_1 hcr_2 hfr_2 hcr_3 hfr_3 hcr_5 hfr_5 hcr_6 hfr_6)
 (try clear hcg3_0 hfg3_0 hcg3_1 hfg3_1 hcg3_2 hfg3_2 hcg3_3 hfg3_3)
 have hs : Below w1.heap.size w1 (World.drew w1) := below_drew1 (Below.refl _ _)
 have SZ2 := Aside0.mk (show w1.heap.size ≤ (World.drew w1).heap.size from hs.size)
 replace BKr := bb BKr hs
 replace BKg3 := bb BKg3 hs
 replace HB := Aside0.mk (below_step HB.out hs)
 clear hs
 refine start_ (n := 13) (S := fun w' => w'.cell? ⟨r, 0, none⟩ = some (.int .i64 a) ∧ w'.cell? ⟨r, 1, none⟩ = some (.int .i64 b) ∧ w'.cell? ⟨r, 2, none⟩ = some (.int .i64 c) ∧ w'.cell? ⟨r, 3, none⟩ = some (.int .i64 d) ∧ w'.cell? ⟨r, 5, none⟩ = some (.bool false) ∧ w'.cell? ⟨r, 6, none⟩ = some (.int .i64 0) ∧ w'.cell? ⟨g3, 0, none⟩ = some (.int .i64 x.f0) ∧ w'.cell? ⟨g3, 1, none⟩ = some (.int .i64 x.f1) ∧ w'.cell? ⟨g3, 2, none⟩ = some (.int .i64 x.f2) ∧ w'.cell? ⟨g3, 3, none⟩ = some (.slice B x.f3.length cc)) (ds := []) #[O,O,O,O,O,O,O,O,O,O,O,O,O] (by kernel_rfl) rfl rfl ⟨(blk_cell BKr.out 0).trans rfl, (blk_cell BKr.out 1).trans rfl, (blk_cell BKr.out 2).trans rfl, (blk_cell BKr.out 3).trans rfl, (blk_cell BKr.out 5).trans rfl, (blk_cell BKr.out 6).trans rfl, (blk_cell BKg3.out 0).trans rfl, (blk_cell BKg3.out 1).trans rfl, (blk_cell BKg3.out 2).trans rfl, (blk_cell BKg3.out 3).trans rfl⟩ (fun hHeld => ?_)
 generalize World.drew w1 = w2 at HB BKr BKg3 SZ2 hHeld ⊢
 refine pv 0 10 ?_ #[X,O,O,O,O,O,O,O,O,O,O,O,O] rfl rfl (by kernel_rfl) (fun _ _ _ h => h) ⟨by rfl, ?_⟩ ?_ ?_ ?_; rotate_left; (intro w'; go_simp; with_reducible rfl); rotate_left; (simp only [sP]; rfl)
 refine pv 1 11 ?_ #[X,X,O,O,O,O,O,O,O,O,O,O,O] rfl rfl (by kernel_rfl) (fun _ _ _ h => h) ⟨by rfl, ?_⟩ ?_ ?_ ?_; rotate_left; (intro w'; go_simp; with_reducible rfl); rotate_left; (simp only [sP]; rfl)
 refine pv 2 12 ?_ #[X,X,X,O,O,O,O,O,O,O,O,O,O] rfl rfl (by kernel_rfl) (fun _ _ _ h => h) ⟨by rfl, ?_⟩ ?_ ?_ ?_; rotate_left; (intro w'; go_simp; with_reducible rfl); rotate_left; (simp only [sP]; rfl)
 refine pv 3 13 ?_ #[X,X,X,X,O,O,O,O,O,O,O,O,O] rfl rfl (by kernel_rfl) (fun _ _ _ h => h) ⟨by rfl, ?_⟩ ?_ ?_ ?_; rotate_left; (intro w'; go_simp; with_reducible rfl); rotate_left; (simp only [sP]; rfl)
 refine pv 5 15 ?_ #[X,X,X,X,O,X,O,O,O,O,O,O,O] rfl rfl (by kernel_rfl) (fun _ _ _ h => h) ⟨by rfl, ?_⟩ ?_ ?_ ?_; rotate_left; (intro w'; go_simp; with_reducible rfl); rotate_left; (simp only [sP]; rfl)
 refine pv 7 17 ?_ #[X,X,X,X,O,X,O,X,O,O,O,O,O] rfl rfl (by kernel_rfl) (fun _ _ _ h => h) ⟨by rfl, ?_⟩ ?_ ?_ ?_; rotate_left; (intro w'; go_simp; with_reducible rfl); rotate_left; (simp only [sP]; rfl)
 refine pv 9 19 ?_ #[X,X,X,X,O,X,O,X,O,X,O,O,O] rfl rfl (by kernel_rfl) (fun _ _ _ h => h) ⟨by rfl, ?_⟩ ?_ ?_ ?_; rotate_left; (intro w'; go_simp; with_reducible rfl); rotate_left; (simp only [sP]; rfl)
 refine tv 4 14 ?_ #[X,X,X,X,X,X,O,X,O,X,O,O,O] rfl rfl (by kernel_rfl) (fun _ _ _ h => h) ⟨by rfl, ?_⟩ hHeld ?_ ?_ ?_; rotate_left; (rintro w' ⟨s0, s1, s2, s3, s4, s5, s6, s7, s8, s9⟩; go_simp; with_reducible rfl); rotate_left; (simp only [sP]; rfl)
 refine tv 6 16 ?_ #[X,X,X,X,X,X,X,X,O,X,O,O,O] rfl rfl (by kernel_rfl) (fun _ _ _ h => h) ⟨by rfl, ?_⟩ hHeld ?_ ?_ ?_; rotate_left; (rintro w' ⟨s0, s1, s2, s3, s4, s5, s6, s7, s8, s9⟩; go_simp; with_reducible rfl); rotate_left; (simp only [sP]; rfl)
 refine tv 8 18 ?_ #[X,X,X,X,X,X,X,X,X,X,O,O,O] rfl rfl (by kernel_rfl) (fun _ _ _ h => h) ⟨by rfl, ?_⟩ hHeld ?_ ?_ ?_; rotate_left; (rintro w' ⟨s0, s1, s2, s3, s4, s5, s6, s7, s8, s9⟩; go_simp; with_reducible rfl); rotate_left; (simp only [sP]; rfl)
 refine tv 10 20 ?_ #[X,X,X,X,X,X,X,X,X,X,X,O,O] rfl rfl (by kernel_rfl) (fun _ _ _ h => h) ⟨by rfl, ?_⟩ hHeld ?_ ?_ ?_; rotate_left; (rintro w' ⟨s0, s1, s2, s3, s4, s5, s6, s7, s8, s9⟩; go_simp; with_reducible rfl); rotate_left; (simp only [sP]; rfl)
 refine one_ (i := 11) (N := some 21) #[X,X,X,X,X,X,X,X,X,X,X,X,O] rfl rfl (by kernel_rfl) (by decide) (fun K hK => ?_)
 refine goes_ Try.func53 (by kernel_rfl) rfl #[.agg #[.int .i64 a, .int .i64 b, .int .i64 c, .int .i64 d], .int .i64 x.f0, .int .i64 x.f1, .int .i64 x.f2] (by rfl) rfl rfl (by simp only [List.map_toArray, List.map_cons, List.map_nil]; rfl) ?_
 with_reducible refine (twoslotref08_There.calls a b c d x.f0 x.f1 x.f2 (atOf m d x.f0 x.f1 x.f2) _ HTE.out).mono ?_
 rintro e w3 ⟨rfl, hb⟩
 refine ⟨_, rfl, ?_⟩
 have hs : Below w2.heap.size w2 w3 := below_step Lt8.b hb
 skip
 have SZ3 := Aside0.mk (show w2.heap.size ≤ w3.heap.size from hs.size)
 replace BKr := bb BKr hs
 replace BKg3 := bb BKg3 hs
 replace HB := Aside0.mk (below_step HB.out hs)
 clear hs hb
 (try clear hl)
 refine hK.out _ _ ⟨(blk_cell BKr.out 0).trans rfl, (blk_cell BKr.out 1).trans rfl, (blk_cell BKr.out 2).trans rfl, (blk_cell BKr.out 3).trans rfl, (blk_cell BKr.out 5).trans rfl, (blk_cell BKr.out 6).trans rfl, (blk_cell BKg3.out 0).trans rfl, (blk_cell BKg3.out 1).trans rfl, (blk_cell BKg3.out 2).trans rfl, (blk_cell BKg3.out 3).trans rfl⟩ (fun hHeld => ?_)
 clear hK K
 refine norm_ (a' := ?_) ?_ ?_
 rotate_left
 ·
  show Act.put _ (some 21) _ = _
  simp only [sP]
  rfl
 refine pv 12 5 ?_ #[X,X,X,X,X,X,X,X,X,X,X,X,X] rfl rfl (by kernel_rfl) (fun _ _ _ h => h) ⟨by rfl, ?_⟩ ?_ ?_ ?_; rotate_left; (intro w'; go_simp; with_reducible rfl); rotate_left; (simp only [sP]; rfl)
 refine done_ (by kernel_rfl) ?_
 obtain ⟨hcr_0, hcr_1, hcr_2, hcr_3, -, hcr_5, hcr_6, -, -, hfr_0, hfr_1, hfr_2, hfr_3, -, hfr_5, hfr_6, -, -⟩ := cs9 BKr.out
 obtain ⟨⟨hcg3_0, hfg3_0⟩, ⟨hcg3_1, hfg3_1⟩, ⟨hcg3_2, hfg3_2⟩, ⟨hcg3_3, hfg3_3⟩⟩ := cells4 BKg3.out
 go_wp2_with (fail)
 (try clear hcr_0 hfr_0 hcr_1 hfr_1 hcr_2 hfr_2 hcr_3 hfr_3 hcr_5 hfr_5 hcr_6 hfr_6)
 (try clear hcg3_0 hfg3_0 hcg3_1 hfg3_1 hcg3_2 hfg3_2 hcg3_3 hfg3_3)
 have hs : Below w3.heap.size w3 (World.drew w3) := below_drew1 (Below.refl _ _)
 have SZ4 := Aside0.mk (show w3.heap.size ≤ (World.drew w3).heap.size from hs.size)
 replace BKr := bb BKr hs
 replace BKg3 := bb BKg3 hs
 replace HB := Aside0.mk (below_step HB.out hs)
 clear hs
 refine start_ (n := 14) (S := fun w' => w'.cell? ⟨r, 0, none⟩ = some (.int .i64 a) ∧ w'.cell? ⟨r, 1, none⟩ = some (.int .i64 b) ∧ w'.cell? ⟨r, 2, none⟩ = some (.int .i64 c) ∧ w'.cell? ⟨r, 3, none⟩ = some (.int .i64 d) ∧ w'.cell? ⟨r, 5, none⟩ = some (.bool false) ∧ w'.cell? ⟨r, 6, none⟩ = some (.int .i64 0) ∧ w'.cell? ⟨g3, 0, none⟩ = some (.int .i64 x.f0) ∧ w'.cell? ⟨g3, 1, none⟩ = some (.int .i64 x.f1) ∧ w'.cell? ⟨g3, 2, none⟩ = some (.int .i64 x.f2) ∧ w'.cell? ⟨g3, 3, none⟩ = some (.slice B x.f3.length cc)) (ds := []) #[O,O,O,O,O,O,O,O,O,O,O,O,O,O] (by kernel_rfl) rfl rfl ⟨(blk_cell BKr.out 0).trans rfl, (blk_cell BKr.out 1).trans rfl, (blk_cell BKr.out 2).trans rfl, (blk_cell BKr.out 3).trans rfl, (blk_cell BKr.out 5).trans rfl, (blk_cell BKr.out 6).trans rfl, (blk_cell BKg3.out 0).trans rfl, (blk_cell BKg3.out 1).trans rfl, (blk_cell BKg3.out 2).trans rfl, (blk_cell BKg3.out 3).trans rfl⟩ (fun hHeld => ?_)
 generalize World.drew w3 = w4 at HB BKr BKg3 SZ4 hHeld ⊢
 refine pv 0 22 ?_ #[X,O,O,O,O,O,O,O,O,O,O,O,O,O] rfl rfl (by kernel_rfl) (fun _ _ _ h => h) ⟨by rfl, ?_⟩ ?_ ?_ ?_; rotate_left; (intro w'; go_simp; with_reducible rfl); rotate_left; (simp only [sP]; rfl)
 refine pv 1 23 ?_ #[X,X,O,O,O,O,O,O,O,O,O,O,O,O] rfl rfl (by kernel_rfl) (fun _ _ _ h => h) ⟨by rfl, ?_⟩ ?_ ?_ ?_; rotate_left; (intro w'; go_simp; with_reducible rfl); rotate_left; (simp only [sP]; rfl)
 refine pv 2 24 ?_ #[X,X,X,O,O,O,O,O,O,O,O,O,O,O] rfl rfl (by kernel_rfl) (fun _ _ _ h => h) ⟨by rfl, ?_⟩ ?_ ?_ ?_; rotate_left; (intro w'; go_simp; with_reducible rfl); rotate_left; (simp only [sP]; rfl)
 refine pv 3 25 ?_ #[X,X,X,X,O,O,O,O,O,O,O,O,O,O] rfl rfl (by kernel_rfl) (fun _ _ _ h => h) ⟨by rfl, ?_⟩ ?_ ?_ ?_; rotate_left; (intro w'; go_simp; with_reducible rfl); rotate_left; (simp only [sP]; rfl)
 refine pv 6 28 ?_ #[X,X,X,X,O,O,X,O,O,O,O,O,O,O] rfl rfl (by kernel_rfl) (fun _ _ _ h => h) ⟨by rfl, ?_⟩ ?_ ?_ ?_; rotate_left; (intro w'; go_simp; with_reducible rfl); rotate_left; (simp only [sP]; rfl)
 refine pv 7 29 ?_ #[X,X,X,X,O,O,X,X,O,O,O,O,O,O] rfl rfl (by kernel_rfl) (fun _ _ _ h => h) ⟨by rfl, ?_⟩ ?_ ?_ ?_; rotate_left; (intro w'; go_simp; with_reducible rfl); rotate_left; (simp only [sP]; rfl)
 refine pv 8 30 ?_ #[X,X,X,X,O,O,X,X,X,O,O,O,O,O] rfl rfl (by kernel_rfl) (fun _ _ _ h => h) ⟨by rfl, ?_⟩ ?_ ?_ ?_; rotate_left; (intro w'; go_simp; with_reducible rfl); rotate_left; (simp only [sP]; rfl)
 refine pv 9 31 ?_ #[X,X,X,X,O,O,X,X,X,X,O,O,O,O] rfl rfl (by kernel_rfl) (fun _ _ _ h => h) ⟨by rfl, ?_⟩ ?_ ?_ ?_; rotate_left; (intro w'; go_simp; with_reducible rfl); rotate_left; (simp only [sP]; rfl)
 refine tv 4 26 ?_ #[X,X,X,X,X,O,X,X,X,X,O,O,O,O] rfl rfl (by kernel_rfl) (fun _ _ _ h => h) ⟨by rfl, ?_⟩ hHeld ?_ ?_ ?_; rotate_left; (rintro w' ⟨s0, s1, s2, s3, s4, s5, s6, s7, s8, s9⟩; go_simp; with_reducible rfl); rotate_left; (simp only [sP]; rfl)
 refine pv 5 27 ?_ #[X,X,X,X,X,X,X,X,X,X,O,O,O,O] rfl rfl (by kernel_rfl) (fun _ _ _ h => h) ⟨by rfl, ?_⟩ ?_ ?_ ?_; rotate_left; (intro w'; go_simp; with_reducible rfl); rotate_left; (simp only [sP]; rfl)
 refine tv 10 32 ?_ #[X,X,X,X,X,X,X,X,X,X,X,O,O,O] rfl rfl (by kernel_rfl) (fun _ _ _ h => h) ⟨by rfl, ?_⟩ hHeld ?_ ?_ ?_; rotate_left; (rintro w' ⟨s0, s1, s2, s3, s4, s5, s6, s7, s8, s9⟩; go_simp; with_reducible rfl); rotate_left; (simp only [sP]; rfl)
 refine one_ (i := 11) (N := some 33) #[X,X,X,X,X,X,X,X,X,X,X,X,O,O] rfl rfl (by kernel_rfl) (by decide) (fun K hK => ?_)
 refine goes_ Try.func51 (by kernel_rfl) rfl #[.agg #[.int .i64 a, .int .i64 b, .int .i64 c, .int .i64 d]] (by rfl) rfl rfl (by simp only [List.map_toArray, List.map_cons, List.map_nil]; rfl) ?_
 with_reducible refine (twoslotref06_Size.calls a b c d (sizeOf08 a b c) _ HSE.out).mono ?_
 rintro e w5 ⟨rfl, hb⟩
 refine ⟨_, rfl, ?_⟩
 have hs : Below w4.heap.size w4 w5 := below_step Lt8.b hb
 skip
 have SZ5 := Aside0.mk (show w4.heap.size ≤ w5.heap.size from hs.size)
 replace BKr := bb BKr hs
 replace BKg3 := bb BKg3 hs
 replace HB := Aside0.mk (below_step HB.out hs)
 clear hs hb
 (try clear hl)
 refine hK.out _ _ ⟨(blk_cell BKr.out 0).trans rfl, (blk_cell BKr.out 1).trans rfl, (blk_cell BKr.out 2).trans rfl, (blk_cell BKr.out 3).trans rfl, (blk_cell BKr.out 5).trans rfl, (blk_cell BKr.out 6).trans rfl, (blk_cell BKg3.out 0).trans rfl, (blk_cell BKg3.out 1).trans rfl, (blk_cell BKg3.out 2).trans rfl, (blk_cell BKg3.out 3).trans rfl⟩ (fun hHeld => ?_)
 clear hK K
 refine norm_ (a' := ?_) ?_ ?_
 rotate_left
 ·
  show Act.put _ (some 33) _ = _
  simp only [sP]
  rfl
 refine pv 12 34 ?_ #[X,X,X,X,X,X,X,X,X,X,X,X,X,O] rfl rfl (by kernel_rfl) (fun _ _ _ h => h) ⟨by rfl, ?_⟩ ?_ ?_ ?_; rotate_left; (intro w'; go_simp; with_reducible rfl); rotate_left; (simp only [sP]; rfl)
 refine pv 13 35 ?_ #[X,X,X,X,X,X,X,X,X,X,X,X,X,X] rfl rfl (by kernel_rfl) (fun _ _ _ h => h) ⟨by rfl, ?_⟩ ?_ ?_ ?_; rotate_left; (intro w'; go_simp; with_reducible rfl); rotate_left; (simp only [sP]; rfl)
 refine done_ (by kernel_rfl) ?_
 obtain ⟨hcr_0, hcr_1, hcr_2, hcr_3, -, hcr_5, hcr_6, -, -, hfr_0, hfr_1, hfr_2, hfr_3, -, hfr_5, hfr_6, -, -⟩ := cs9 BKr.out
 obtain ⟨⟨hcg3_0, hfg3_0⟩, ⟨hcg3_1, hfg3_1⟩, ⟨hcg3_2, hfg3_2⟩, ⟨hcg3_3, hfg3_3⟩⟩ := cells4 BKg3.out
 go_wp2_with (fail)
 first | go_ret | go_ret2
 have K0 := H0.out.below HB.out
 have K1 := K0.setD (off' := false) (cut' := -1) (wr' := wr) 6 (.int .i64 (-1)) rfl
 have K2 := K1.setD (off' := true) (cut' := -1) (wr' := wr) 5 (.bool true) rfl
 have Q1 := ((Wrote.start H0.out.low).below HB.out).cell (g := r) (j := 6) H0.out.ok_ (H0.out.bd r H0.out.ok_).1 (.int .i64 (-1))
 have Q2 := Q1.cell (g := r) (j := 5) H0.out.ok_ (H0.out.bd r H0.out.ok_).1 (.bool true)
 exact ⟨rfl, K2.gr H0.out.low (fun k hk => .inl hk) H0.out.base_, Q2⟩
set_option maxHeartbeats 8000000 in
set_option maxRecDepth 100000 in
theorem RWrite_left (r : Nat) (As Ag : Option Addr) (n cs m cg : Nat) (a b c d : Int) (slots : List (List Int)) (gone : List Bool) (off : Bool) (cut wr : Int) (base : Nat) (ok : Nat → Prop) (x : S51) (B : Option Addr) (cc : Nat) (w : World) (H : RefO w base ok r As n cs Ag m cg a b c d slots gone off cut wr) (hm : (m : Int) = a + b) (hm2 : m ≤ 16) (hd : 0 ≤ d ∧ d ≤ 4096) (ho : off = false) (i : Nat) (hat : atOf m d x.f0 x.f1 x.f2 = (i : Int)) (hi : i < slots.length) (hl : (x.f3.length : Int) = sizeOf08 a b c) (hc : 0 < cut) (okl : Nat → Prop) (hF : Kd.F (Kd.int .u8) w okl B x.f3.length x.f3) (hdis : ∀ k, okl k → ¬ ok k) (hlb : ∀ k, okl k → k < w.heap.size) (hle : x.f3.length ≤ cc) (hBy : IsB x.f3) (hLn : x.f3.length ≤ 1048576) : Calls Try.prog 52 #[.pointer (some ⟨r, 0, none⟩), .agg #[.int .i64 x.f0, .int .i64 x.f1, .int .i64 x.f2, .slice B x.f3.length cc]] w fun e w' => e = .returned (.int .i64 0) ∧ RefO w' base (Gr ok w w') r As n cs Ag m cg a b c d (slots.set i x.f3) gone false (wrap64 (cut - 1)) (wrap64 (wr + 1)) ∧ Wrote base ok w w' := by
 have hu23 := Try.underlying23
 have hu51 := Try.underlying51
 have hu80 := Try.underlying80
 have hu36 := Try.underlying36
 subst ho
 have _ := trivial
 have d1 : decide ((i : Int) < 0) = false := decide_eq_false (by omega)
 have d2 : ((x.f3.length : Int) == sizeOf08 a b c) = true := beq_iff_eq.mpr hl
 have d3 : decide ((x.f3.length : Int) = sizeOf08 a b c) = true := decide_eq_true hl
 have d4 : (cut == 0) = false := beq_false_of_ne (by omega)
 have d5 : decide (cut = 0) = false := decide_eq_false (by omega)
 have d6 : decide (0 < cut) = true := decide_eq_true (by omega)
 have hln := H.lens
 obtain ⟨g, cap, e, _⟩ := Kd.N_form H.2.1 (by omega)
 injection e with e1 e2 e3
 subst e1
 have f1 : (i < n) = True := eq_true (by omega)
 have f2 : decide ((i : Int) < (n : Int)) = true := decide_eq_true (by omega)
 have HAT := Aside0.mk hat
 have HI := Aside0.mk hi
 have HF := Aside0.mk hF
 have HDI := Aside0.mk hdis
 have HLB := Aside0.mk hlb
 have HLE := Aside0.mk hle
 have HBY := Aside0.mk (bytes8_ev hBy hLn)
 have hnrg : r ≠ g := (H.2.1.1 g rfl).2.1.symm
 have hngr : g ≠ r := hnrg.symm
 have HG := Aside0.mk (show g < w.heap.size from (H.bd g (H.2.1.1 g rfl).1).2)
 clear hi hl hF hdis hlb hle hBy hLn e2 e3 hln
 have HTE := Aside0.mk ((there_ev (c := c) hm hm2 hd x.f0 x.f1 x.f2).trans (congrArg some hat))
 have HSE := Aside0.mk (size8_ev (c := c) (d := d) hm hm2)
 have HB := Aside0.mk (Below.refl w.heap.size w)
 have H0 := Aside0.mk H
 have BKr := Aside0.mk H.1
 have HZ1 := Aside0.mk (show r < w.heap.size from blk_lt H.1)
 clear H hm hm2 hd hat hc
 obtain ⟨hcr_0, hcr_1, hcr_2, hcr_3, hcr_4, hcr_5, hcr_6, -, hcr_8, hfr_0, hfr_1, hfr_2, hfr_3, hfr_4, hfr_5, hfr_6, -, hfr_8⟩ := cs9 BKr.out
 go_enter Try.func52, Try.ntmps52
 have tok1 : True := trivial
 go_wp2_with (first | (have _ := tok1; (with_reducible refine gate_dst (N := 3) rfl ?_); refine box_event rfl (N := 3) rfl (cs := #[.int .i64 x.f0, .int .i64 x.f1, .int .i64 x.f2, .slice B x.f3.length cc]) (t := 51) (by go_simp; try rfl) ?_; intro g3 hg w1 hbox hb; have hs : Below w.heap.size w w1 := below_step Lt8.b hb; have SZ1 := Aside0.mk (show w.heap.size ≤ g3 ∧ g3 < w1.heap.size from ⟨by rw [hg]; exact (below_size Lt8.b), blk_lt hbox⟩); (try clear hcr_0 hfr_0 hcr_1 hfr_1 hcr_2 hfr_2 hcr_3 hfr_3 hcr_4 hfr_4 hcr_5 hfr_5 hcr_6 hfr_6 hcr_8 hfr_8); replace BKr := bb BKr hs; replace HB := hbs HB hs; have q0_ := HZ1.out; have q1_ := SZ1.out; have hner_g3 : r ≠ g3 := (by omega); have hneg3_r := hner_g3.symm; clear q0_ q1_; have BKg3 := Aside0.mk hbox; clear hb hbox hg hs; obtain ⟨hcr_0, hcr_1, hcr_2, hcr_3, hcr_4, hcr_5, hcr_6, -, hcr_8, hfr_0, hfr_1, hfr_2, hfr_3, hfr_4, hfr_5, hfr_6, -, hfr_8⟩ := cs9 BKr.out; obtain ⟨⟨hcg3_0, hfg3_0⟩, ⟨hcg3_1, hfg3_1⟩, ⟨hcg3_2, hfg3_2⟩, ⟨hcg3_3, hfg3_3⟩⟩ := cells4 BKg3.out; clear tok1))
 (try clear hcr_0 hfr_0 hcr_1 hfr_1 hcr_2 hfr_2 hcr_3 hfr_3 hcr_4 hfr_4 hcr_5 hfr_5 hcr_6 hfr_6 hcr_8 hfr_8)
 (try clear hcg3_0 hfg3_0 hcg3_1 hfg3_1 hcg3_2 hfg3_2 hcg3_3 hfg3_3)
 have hs : Below w1.heap.size w1 (World.drew w1) := below_drew1 (Below.refl _ _)
 have SZ2 := Aside0.mk (show w1.heap.size ≤ (World.drew w1).heap.size from hs.size)
 replace BKr := bb BKr hs
 replace BKg3 := bb BKg3 hs
 replace HB := Aside0.mk (below_step HB.out hs)
 clear hs
 refine start_ (n := 13) (S := fun w' => w'.cell? ⟨r, 0, none⟩ = some (.int .i64 a) ∧ w'.cell? ⟨r, 1, none⟩ = some (.int .i64 b) ∧ w'.cell? ⟨r, 2, none⟩ = some (.int .i64 c) ∧ w'.cell? ⟨r, 3, none⟩ = some (.int .i64 d) ∧ w'.cell? ⟨r, 4, none⟩ = some (.slice (some ⟨g, 0, none⟩) n cs) ∧ w'.cell? ⟨r, 5, none⟩ = some (.bool false) ∧ w'.cell? ⟨r, 6, none⟩ = some (.int .i64 cut) ∧ w'.cell? ⟨r, 8, none⟩ = some (.int .i64 wr) ∧ w'.cell? ⟨g3, 0, none⟩ = some (.int .i64 x.f0) ∧ w'.cell? ⟨g3, 1, none⟩ = some (.int .i64 x.f1) ∧ w'.cell? ⟨g3, 2, none⟩ = some (.int .i64 x.f2) ∧ w'.cell? ⟨g3, 3, none⟩ = some (.slice B x.f3.length cc)) (ds := []) #[O,O,O,O,O,O,O,O,O,O,O,O,O] (by kernel_rfl) rfl rfl ⟨(blk_cell BKr.out 0).trans rfl, (blk_cell BKr.out 1).trans rfl, (blk_cell BKr.out 2).trans rfl, (blk_cell BKr.out 3).trans rfl, (blk_cell BKr.out 4).trans rfl, (blk_cell BKr.out 5).trans rfl, (blk_cell BKr.out 6).trans rfl, (blk_cell BKr.out 8).trans rfl, (blk_cell BKg3.out 0).trans rfl, (blk_cell BKg3.out 1).trans rfl, (blk_cell BKg3.out 2).trans rfl, (blk_cell BKg3.out 3).trans rfl⟩ (fun hHeld => ?_)
 generalize World.drew w1 = w2 at HB BKr BKg3 SZ2 hHeld ⊢
 refine pv 0 10 ?_ #[X,O,O,O,O,O,O,O,O,O,O,O,O] rfl rfl (by kernel_rfl) (fun _ _ _ h => h) ⟨by rfl, ?_⟩ ?_ ?_ ?_; rotate_left; (intro w'; go_simp; with_reducible rfl); rotate_left; (simp only [sP]; rfl)
 refine pv 1 11 ?_ #[X,X,O,O,O,O,O,O,O,O,O,O,O] rfl rfl (by kernel_rfl) (fun _ _ _ h => h) ⟨by rfl, ?_⟩ ?_ ?_ ?_; rotate_left; (intro w'; go_simp; with_reducible rfl); rotate_left; (simp only [sP]; rfl)
 refine pv 2 12 ?_ #[X,X,X,O,O,O,O,O,O,O,O,O,O] rfl rfl (by kernel_rfl) (fun _ _ _ h => h) ⟨by rfl, ?_⟩ ?_ ?_ ?_; rotate_left; (intro w'; go_simp; with_reducible rfl); rotate_left; (simp only [sP]; rfl)
 refine pv 3 13 ?_ #[X,X,X,X,O,O,O,O,O,O,O,O,O] rfl rfl (by kernel_rfl) (fun _ _ _ h => h) ⟨by rfl, ?_⟩ ?_ ?_ ?_; rotate_left; (intro w'; go_simp; with_reducible rfl); rotate_left; (simp only [sP]; rfl)
 refine pv 5 15 ?_ #[X,X,X,X,O,X,O,O,O,O,O,O,O] rfl rfl (by kernel_rfl) (fun _ _ _ h => h) ⟨by rfl, ?_⟩ ?_ ?_ ?_; rotate_left; (intro w'; go_simp; with_reducible rfl); rotate_left; (simp only [sP]; rfl)
 refine pv 7 17 ?_ #[X,X,X,X,O,X,O,X,O,O,O,O,O] rfl rfl (by kernel_rfl) (fun _ _ _ h => h) ⟨by rfl, ?_⟩ ?_ ?_ ?_; rotate_left; (intro w'; go_simp; with_reducible rfl); rotate_left; (simp only [sP]; rfl)
 refine pv 9 19 ?_ #[X,X,X,X,O,X,O,X,O,X,O,O,O] rfl rfl (by kernel_rfl) (fun _ _ _ h => h) ⟨by rfl, ?_⟩ ?_ ?_ ?_; rotate_left; (intro w'; go_simp; with_reducible rfl); rotate_left; (simp only [sP]; rfl)
 refine tv 4 14 ?_ #[X,X,X,X,X,X,O,X,O,X,O,O,O] rfl rfl (by kernel_rfl) (fun _ _ _ h => h) ⟨by rfl, ?_⟩ hHeld ?_ ?_ ?_; rotate_left; (rintro w' ⟨s0, s1, s2, s3, s4, s5, s6, s7, s8, s9, s10, s11⟩; go_simp; with_reducible rfl); rotate_left; (simp only [sP]; rfl)
 refine tv 6 16 ?_ #[X,X,X,X,X,X,X,X,O,X,O,O,O] rfl rfl (by kernel_rfl) (fun _ _ _ h => h) ⟨by rfl, ?_⟩ hHeld ?_ ?_ ?_; rotate_left; (rintro w' ⟨s0, s1, s2, s3, s4, s5, s6, s7, s8, s9, s10, s11⟩; go_simp; with_reducible rfl); rotate_left; (simp only [sP]; rfl)
 refine tv 8 18 ?_ #[X,X,X,X,X,X,X,X,X,X,O,O,O] rfl rfl (by kernel_rfl) (fun _ _ _ h => h) ⟨by rfl, ?_⟩ hHeld ?_ ?_ ?_; rotate_left; (rintro w' ⟨s0, s1, s2, s3, s4, s5, s6, s7, s8, s9, s10, s11⟩; go_simp; with_reducible rfl); rotate_left; (simp only [sP]; rfl)
 refine tv 10 20 ?_ #[X,X,X,X,X,X,X,X,X,X,X,O,O] rfl rfl (by kernel_rfl) (fun _ _ _ h => h) ⟨by rfl, ?_⟩ hHeld ?_ ?_ ?_; rotate_left; (rintro w' ⟨s0, s1, s2, s3, s4, s5, s6, s7, s8, s9, s10, s11⟩; go_simp; with_reducible rfl); rotate_left; (simp only [sP]; rfl)
 refine one_ (i := 11) (N := some 21) #[X,X,X,X,X,X,X,X,X,X,X,X,O] rfl rfl (by kernel_rfl) (by decide) (fun K hK => ?_)
 refine goes_ Try.func53 (by kernel_rfl) rfl #[.agg #[.int .i64 a, .int .i64 b, .int .i64 c, .int .i64 d], .int .i64 x.f0, .int .i64 x.f1, .int .i64 x.f2] (by rfl) rfl rfl (by simp only [List.map_toArray, List.map_cons, List.map_nil]; rfl) ?_
 with_reducible refine (twoslotref08_There.calls a b c d x.f0 x.f1 x.f2 (i : Int) _ HTE.out).mono ?_
 rintro e w3 ⟨rfl, hb⟩
 refine ⟨_, rfl, ?_⟩
 have hs : Below w2.heap.size w2 w3 := below_step Lt8.b hb
 skip
 have SZ3 := Aside0.mk (show w2.heap.size ≤ w3.heap.size from hs.size)
 replace BKr := bb BKr hs
 replace BKg3 := bb BKg3 hs
 replace HB := Aside0.mk (below_step HB.out hs)
 clear hs hb
 (try clear hl)
 refine hK.out _ _ ⟨(blk_cell BKr.out 0).trans rfl, (blk_cell BKr.out 1).trans rfl, (blk_cell BKr.out 2).trans rfl, (blk_cell BKr.out 3).trans rfl, (blk_cell BKr.out 4).trans rfl, (blk_cell BKr.out 5).trans rfl, (blk_cell BKr.out 6).trans rfl, (blk_cell BKr.out 8).trans rfl, (blk_cell BKg3.out 0).trans rfl, (blk_cell BKg3.out 1).trans rfl, (blk_cell BKg3.out 2).trans rfl, (blk_cell BKg3.out 3).trans rfl⟩ (fun hHeld => ?_)
 clear hK K
 refine norm_ (a' := ?_) ?_ ?_
 rotate_left
 ·
  show Act.put _ (some 21) _ = _
  simp only [sP]
  rfl
 refine pv 12 5 ?_ #[X,X,X,X,X,X,X,X,X,X,X,X,X] rfl rfl (by kernel_rfl) (fun _ _ _ h => h) ⟨by rfl, ?_⟩ ?_ ?_ ?_; rotate_left; (intro w'; go_simp; with_reducible rfl); rotate_left; (simp only [sP]; rfl)
 refine done_ (by kernel_rfl) ?_
 obtain ⟨hcr_0, hcr_1, hcr_2, hcr_3, hcr_4, hcr_5, hcr_6, -, hcr_8, hfr_0, hfr_1, hfr_2, hfr_3, hfr_4, hfr_5, hfr_6, -, hfr_8⟩ := cs9 BKr.out
 obtain ⟨⟨hcg3_0, hfg3_0⟩, ⟨hcg3_1, hfg3_1⟩, ⟨hcg3_2, hfg3_2⟩, ⟨hcg3_3, hfg3_3⟩⟩ := cells4 BKg3.out
 go_wp2_with (fail)
 (try clear hcr_0 hfr_0 hcr_1 hfr_1 hcr_2 hfr_2 hcr_3 hfr_3 hcr_4 hfr_4 hcr_5 hfr_5 hcr_6 hfr_6 hcr_8 hfr_8)
 (try clear hcg3_0 hfg3_0 hcg3_1 hfg3_1 hcg3_2 hfg3_2 hcg3_3 hfg3_3)
 have hs : Below w3.heap.size w3 (World.drew w3) := below_drew1 (Below.refl _ _)
 have SZ4 := Aside0.mk (show w3.heap.size ≤ (World.drew w3).heap.size from hs.size)
 replace BKr := bb BKr hs
 replace BKg3 := bb BKg3 hs
 replace HB := Aside0.mk (below_step HB.out hs)
 clear hs
 refine start_ (n := 14) (S := fun w' => w'.cell? ⟨r, 0, none⟩ = some (.int .i64 a) ∧ w'.cell? ⟨r, 1, none⟩ = some (.int .i64 b) ∧ w'.cell? ⟨r, 2, none⟩ = some (.int .i64 c) ∧ w'.cell? ⟨r, 3, none⟩ = some (.int .i64 d) ∧ w'.cell? ⟨r, 4, none⟩ = some (.slice (some ⟨g, 0, none⟩) n cs) ∧ w'.cell? ⟨r, 5, none⟩ = some (.bool false) ∧ w'.cell? ⟨r, 6, none⟩ = some (.int .i64 cut) ∧ w'.cell? ⟨r, 8, none⟩ = some (.int .i64 wr) ∧ w'.cell? ⟨g3, 0, none⟩ = some (.int .i64 x.f0) ∧ w'.cell? ⟨g3, 1, none⟩ = some (.int .i64 x.f1) ∧ w'.cell? ⟨g3, 2, none⟩ = some (.int .i64 x.f2) ∧ w'.cell? ⟨g3, 3, none⟩ = some (.slice B x.f3.length cc)) (ds := []) #[O,O,O,O,O,O,O,O,O,O,O,O,O,O] (by kernel_rfl) rfl rfl ⟨(blk_cell BKr.out 0).trans rfl, (blk_cell BKr.out 1).trans rfl, (blk_cell BKr.out 2).trans rfl, (blk_cell BKr.out 3).trans rfl, (blk_cell BKr.out 4).trans rfl, (blk_cell BKr.out 5).trans rfl, (blk_cell BKr.out 6).trans rfl, (blk_cell BKr.out 8).trans rfl, (blk_cell BKg3.out 0).trans rfl, (blk_cell BKg3.out 1).trans rfl, (blk_cell BKg3.out 2).trans rfl, (blk_cell BKg3.out 3).trans rfl⟩ (fun hHeld => ?_)
 generalize World.drew w3 = w4 at HB BKr BKg3 SZ4 hHeld ⊢
 refine pv 0 22 ?_ #[X,O,O,O,O,O,O,O,O,O,O,O,O,O] rfl rfl (by kernel_rfl) (fun _ _ _ h => h) ⟨by rfl, ?_⟩ ?_ ?_ ?_; rotate_left; (intro w'; go_simp; with_reducible rfl); rotate_left; (simp only [sP]; rfl)
 refine pv 1 23 ?_ #[X,X,O,O,O,O,O,O,O,O,O,O,O,O] rfl rfl (by kernel_rfl) (fun _ _ _ h => h) ⟨by rfl, ?_⟩ ?_ ?_ ?_; rotate_left; (intro w'; go_simp; with_reducible rfl); rotate_left; (simp only [sP]; rfl)
 refine pv 2 24 ?_ #[X,X,X,O,O,O,O,O,O,O,O,O,O,O] rfl rfl (by kernel_rfl) (fun _ _ _ h => h) ⟨by rfl, ?_⟩ ?_ ?_ ?_; rotate_left; (intro w'; go_simp; with_reducible rfl); rotate_left; (simp only [sP]; rfl)
 refine pv 3 25 ?_ #[X,X,X,X,O,O,O,O,O,O,O,O,O,O] rfl rfl (by kernel_rfl) (fun _ _ _ h => h) ⟨by rfl, ?_⟩ ?_ ?_ ?_; rotate_left; (intro w'; go_simp; with_reducible rfl); rotate_left; (simp only [sP]; rfl)
 refine pv 6 28 ?_ #[X,X,X,X,O,O,X,O,O,O,O,O,O,O] rfl rfl (by kernel_rfl) (fun _ _ _ h => h) ⟨by rfl, ?_⟩ ?_ ?_ ?_; rotate_left; (intro w'; go_simp; with_reducible rfl); rotate_left; (simp only [sP]; rfl)
 refine pv 7 29 ?_ #[X,X,X,X,O,O,X,X,O,O,O,O,O,O] rfl rfl (by kernel_rfl) (fun _ _ _ h => h) ⟨by rfl, ?_⟩ ?_ ?_ ?_; rotate_left; (intro w'; go_simp; with_reducible rfl); rotate_left; (simp only [sP]; rfl)
 refine pv 8 30 ?_ #[X,X,X,X,O,O,X,X,X,O,O,O,O,O] rfl rfl (by kernel_rfl) (fun _ _ _ h => h) ⟨by rfl, ?_⟩ ?_ ?_ ?_; rotate_left; (intro w'; go_simp; with_reducible rfl); rotate_left; (simp only [sP]; rfl)
 refine pv 9 31 ?_ #[X,X,X,X,O,O,X,X,X,X,O,O,O,O] rfl rfl (by kernel_rfl) (fun _ _ _ h => h) ⟨by rfl, ?_⟩ ?_ ?_ ?_; rotate_left; (intro w'; go_simp; with_reducible rfl); rotate_left; (simp only [sP]; rfl)
 refine tv 4 26 ?_ #[X,X,X,X,X,O,X,X,X,X,O,O,O,O] rfl rfl (by kernel_rfl) (fun _ _ _ h => h) ⟨by rfl, ?_⟩ hHeld ?_ ?_ ?_; rotate_left; (rintro w' ⟨s0, s1, s2, s3, s4, s5, s6, s7, s8, s9, s10, s11⟩; go_simp; with_reducible rfl); rotate_left; (simp only [sP]; rfl)
 refine pv 5 27 ?_ #[X,X,X,X,X,X,X,X,X,X,O,O,O,O] rfl rfl (by kernel_rfl) (fun _ _ _ h => h) ⟨by rfl, ?_⟩ ?_ ?_ ?_; rotate_left; (intro w'; go_simp; with_reducible rfl); rotate_left; (simp only [sP]; rfl)
 refine tv 10 32 ?_ #[X,X,X,X,X,X,X,X,X,X,X,O,O,O] rfl rfl (by kernel_rfl) (fun _ _ _ h => h) ⟨by rfl, ?_⟩ hHeld ?_ ?_ ?_; rotate_left; (rintro w' ⟨s0, s1, s2, s3, s4, s5, s6, s7, s8, s9, s10, s11⟩; go_simp; with_reducible rfl); rotate_left; (simp only [sP]; rfl)
 refine one_ (i := 11) (N := some 33) #[X,X,X,X,X,X,X,X,X,X,X,X,O,O] rfl rfl (by kernel_rfl) (by decide) (fun K hK => ?_)
 refine goes_ Try.func51 (by kernel_rfl) rfl #[.agg #[.int .i64 a, .int .i64 b, .int .i64 c, .int .i64 d]] (by rfl) rfl rfl (by simp only [List.map_toArray, List.map_cons, List.map_nil]; rfl) ?_
 with_reducible refine (twoslotref06_Size.calls a b c d (sizeOf08 a b c) _ HSE.out).mono ?_
 rintro e w5 ⟨rfl, hb⟩
 refine ⟨_, rfl, ?_⟩
 have hs : Below w4.heap.size w4 w5 := below_step Lt8.b hb
 skip
 have SZ5 := Aside0.mk (show w4.heap.size ≤ w5.heap.size from hs.size)
 replace BKr := bb BKr hs
 replace BKg3 := bb BKg3 hs
 replace HB := Aside0.mk (below_step HB.out hs)
 clear hs hb
 (try clear hl)
 refine hK.out _ _ ⟨(blk_cell BKr.out 0).trans rfl, (blk_cell BKr.out 1).trans rfl, (blk_cell BKr.out 2).trans rfl, (blk_cell BKr.out 3).trans rfl, (blk_cell BKr.out 4).trans rfl, (blk_cell BKr.out 5).trans rfl, (blk_cell BKr.out 6).trans rfl, (blk_cell BKr.out 8).trans rfl, (blk_cell BKg3.out 0).trans rfl, (blk_cell BKg3.out 1).trans rfl, (blk_cell BKg3.out 2).trans rfl, (blk_cell BKg3.out 3).trans rfl⟩ (fun hHeld => ?_)
 clear hK K
 refine norm_ (a' := ?_) ?_ ?_
 rotate_left
 ·
  show Act.put _ (some 33) _ = _
  simp only [sP]
  rfl
 refine pv 12 34 ?_ #[X,X,X,X,X,X,X,X,X,X,X,X,X,O] rfl rfl (by kernel_rfl) (fun _ _ _ h => h) ⟨by rfl, ?_⟩ ?_ ?_ ?_; rotate_left; (intro w'; go_simp; with_reducible rfl); rotate_left; (simp only [sP]; rfl)
 refine pv 13 35 ?_ #[X,X,X,X,X,X,X,X,X,X,X,X,X,X] rfl rfl (by kernel_rfl) (fun _ _ _ h => h) ⟨by rfl, ?_⟩ ?_ ?_ ?_; rotate_left; (intro w'; go_simp; with_reducible rfl); rotate_left; (simp only [sP]; rfl)
 refine done_ (by kernel_rfl) ?_
 obtain ⟨hcr_0, hcr_1, hcr_2, hcr_3, hcr_4, hcr_5, hcr_6, -, hcr_8, hfr_0, hfr_1, hfr_2, hfr_3, hfr_4, hfr_5, hfr_6, -, hfr_8⟩ := cs9 BKr.out
 obtain ⟨⟨hcg3_0, hfg3_0⟩, ⟨hcg3_1, hfg3_1⟩, ⟨hcg3_2, hfg3_2⟩, ⟨hcg3_3, hfg3_3⟩⟩ := cells4 BKg3.out
 go_wp2_with (fail)
 (try clear hcr_0 hfr_0 hcr_1 hfr_1 hcr_2 hfr_2 hcr_3 hfr_3 hcr_4 hfr_4 hcr_5 hfr_5 hcr_6 hfr_6 hcr_8 hfr_8)
 (try clear hcg3_0 hfg3_0 hcg3_1 hfg3_1 hcg3_2 hfg3_2 hcg3_3 hfg3_3)
 have hrg3 : g3 ≠ r := by have := HZ1.out; have := HZ1.out; have := SZ1.out; have := SZ2.out; have := SZ3.out; have := SZ4.out; have := SZ5.out; omega
 have K1 := Aside0.mk ((H0.out.below HB.out).setD (off' := false) (cut' := (wrap64 (cut - 1))) (wr' := wr) 6 (.int .i64 (wrap64 (cut - 1))) rfl)
 have Q1 := Aside0.mk (((Wrote.start H0.out.low).below HB.out).cell (g := r) (j := 6) H0.out.ok_ (H0.out.bd r H0.out.ok_).1 (.int .i64 (wrap64 (cut - 1))))
 have BK3 := Aside0.mk (blk_far BKg3.out (p := ⟨r, 6, none⟩) hrg3 (.int .i64 (wrap64 (cut - 1))))
 have HF1 := Aside0.mk (Kd.F_far (Kd.F_below HF.out HB.out) (p := ⟨r, 6, none⟩) (fun k hk e => HDI.out k hk (by rw [e]; exact H0.out.ok_)) (.int .i64 (wrap64 (cut - 1))))
 have SZs := Aside0.mk (show w5.heap.size = (w5.setCell ⟨r, 6, none⟩ (.int .i64 (wrap64 (cut - 1)))).heap.size from by simp [World.setCell])
 generalize w5.setCell ⟨r, 6, none⟩ (.int .i64 (wrap64 (cut - 1))) = wa at K1 Q1 BK3 HF1 SZs ⊢
 clear BKr BKg3 HB
 have BKr := Aside0.mk K1.out.1
 have BKg3 := BK3
 have HB := Aside0.mk (Below.refl wa.heap.size wa)
 have HGa := Aside0.mk (show g < wa.heap.size ∧ w.heap.size ≤ wa.heap.size from ⟨Nat.lt_of_lt_of_le HG.out Q1.out.2.1.size, Q1.out.2.1.size⟩)
 clear BK3
 obtain ⟨-, -, -, -, hcr_4, -, -, -, hcr_8, -, -, -, -, hfr_4, -, -, -, hfr_8⟩ := cs9 BKr.out
 obtain ⟨⟨hcg3_0, hfg3_0⟩, ⟨hcg3_1, hfg3_1⟩, ⟨hcg3_2, hfg3_2⟩, ⟨hcg3_3, hfg3_3⟩⟩ := cells4 BKg3.out
 (try clear hcr_4 hfr_4 hcr_8 hfr_8)
 (try clear hcg3_0 hfg3_0 hcg3_1 hfg3_1 hcg3_2 hfg3_2 hcg3_3 hfg3_3)
 have hs : Below wa.heap.size wa (World.drew wa) := below_drew1 (Below.refl _ _)
 have SZ6 := Aside0.mk (show wa.heap.size ≤ (World.drew wa).heap.size from hs.size)
 replace BKr := bb BKr hs
 replace BKg3 := bb BKg3 hs
 replace HF1 := Aside0.mk (Kd.F_below HF1.out hs)
 replace K1 := Aside0.mk (RefO.below K1.out hs)
 replace HB := Aside0.mk (below_step HB.out hs)
 clear hs
 refine start_ (n := 11) (S := fun w' => w'.cell? ⟨r, 4, none⟩ = some (.slice (some ⟨g, 0, none⟩) n cs) ∧ w'.cell? ⟨r, 8, none⟩ = some (.int .i64 wr) ∧ w'.cell? ⟨g3, 0, none⟩ = some (.int .i64 x.f0) ∧ w'.cell? ⟨g3, 1, none⟩ = some (.int .i64 x.f1) ∧ w'.cell? ⟨g3, 2, none⟩ = some (.int .i64 x.f2) ∧ w'.cell? ⟨g3, 3, none⟩ = some (.slice B x.f3.length cc)) (ds := [10]) #[O,O,O,O,O,O,O,O,O,O,O] (by kernel_rfl) rfl rfl ⟨(blk_cell BKr.out 4).trans rfl, (blk_cell BKr.out 8).trans rfl, (blk_cell BKg3.out 0).trans rfl, (blk_cell BKg3.out 1).trans rfl, (blk_cell BKg3.out 2).trans rfl, (blk_cell BKg3.out 3).trans rfl⟩ (fun hHeld => ?_)
 generalize World.drew wa = w6 at HB BKr BKg3 HF1 K1 SZ6 hHeld ⊢
 refine pv 0 59 ?_ #[X,O,O,O,O,O,O,O,O,O,O] rfl rfl (by kernel_rfl) (fun _ _ _ h => h) ⟨by rfl, ?_⟩ ?_ ?_ ?_; rotate_left; (intro w'; go_simp; with_reducible rfl); rotate_left; (simp only [sP]; rfl)
 refine pv 1 60 ?_ #[X,X,O,O,O,O,O,O,O,O,O] rfl rfl (by kernel_rfl) (fun _ _ _ h => h) ⟨by rfl, ?_⟩ ?_ ?_ ?_; rotate_left; (intro w'; go_simp; with_reducible rfl); rotate_left; (simp only [sP]; rfl)
 refine pv 2 61 ?_ #[X,X,X,O,O,O,O,O,O,O,O] rfl rfl (by kernel_rfl) (fun _ _ _ h => h) ⟨by rfl, ?_⟩ ?_ ?_ ?_; rotate_left; (intro w'; go_simp; with_reducible rfl); rotate_left; (simp only [sP]; rfl)
 refine pv 3 62 ?_ #[X,X,X,X,O,O,O,O,O,O,O] rfl rfl (by kernel_rfl) (fun _ _ _ h => h) ⟨by rfl, ?_⟩ ?_ ?_ ?_; rotate_left; (intro w'; go_simp; with_reducible rfl); rotate_left; (simp only [sP]; rfl)
 refine pv 5 64 ?_ #[X,X,X,X,O,X,O,O,O,O,O] rfl rfl (by kernel_rfl) (fun _ _ _ h => h) ⟨by rfl, ?_⟩ ?_ ?_ ?_; rotate_left; (intro w'; go_simp; with_reducible rfl); rotate_left; (simp only [sP]; rfl)
 refine pv 6 65 ?_ #[X,X,X,X,O,X,X,O,O,O,O] rfl rfl (by kernel_rfl) (fun _ _ _ h => h) ⟨by rfl, ?_⟩ ?_ ?_ ?_; rotate_left; (intro w'; go_simp; with_reducible rfl); rotate_left; (simp only [sP]; rfl)
 refine tv 4 63 ?_ #[X,X,X,X,X,X,X,O,O,O,O] rfl rfl (by kernel_rfl) (fun _ _ _ h => h) ⟨by rfl, ?_⟩ hHeld ?_ ?_ ?_; rotate_left; (rintro w' ⟨s0, s1, s2, s3, s4, s5⟩; go_simp; with_reducible rfl); rotate_left; (simp only [sP]; rfl)
 refine tv 7 66 ?_ #[X,X,X,X,X,X,X,X,O,O,O] rfl rfl (by kernel_rfl) (fun _ _ _ h => h) ⟨by rfl, ?_⟩ hHeld ?_ ?_ ?_; rotate_left; (rintro w' ⟨s0, s1, s2, s3, s4, s5⟩; go_simp; with_reducible rfl); rotate_left; (simp only [sP]; rfl)
 refine one_ (i := 8) (N := some 67) #[X,X,X,X,X,X,X,X,X,O,O] rfl rfl (by kernel_rfl) (by decide) (fun K hK => ?_)
 refine goes_ Try.func33 (by kernel_rfl) rfl #[.slice B x.f3.length cc] (by rfl) rfl rfl (by simp only [List.map_toArray, List.map_cons, List.map_nil]; rfl) ?_
 with_reducible refine (twoslotref08_Bytes.calls B cc x.f3 x.f3 _ ?s1 HLE.out HBY.out).mono ?_
 (case s1 => exact Kd.F_now (Kd.F_below HF1.out Lt8.b))
 rintro e w7 ⟨v, rfl, ho, hb⟩
 refine ⟨_, rfl, ?_⟩
 have hs : Below w6.heap.size w6 w7 := below_step Lt8.b hb
 skip
 have SZ7 := Aside0.mk (show w6.heap.size ≤ w7.heap.size from hs.size)
 replace BKr := bb BKr hs
 replace BKg3 := bb BKg3 hs
 replace HF1 := Aside0.mk (Kd.F_below HF1.out hs)
 replace K1 := Aside0.mk (RefO.below K1.out hs)
 have HV := Aside0.mk ho
 clear ho
 obtain ⟨v_A, v_c, e_⟩ := Kd.V_slice HV.out
 subst e_
 obtain ⟨s_A, s_c, hcu, hfu, _, _⟩ := K1.out.slotCell (i := i) HI.out
 have hcw : w7.heap.size = w7.heap.size := rfl
 replace HB := Aside0.mk (below_step HB.out hs)
 clear hs hb
 (try clear hl)
 refine hK.out _ _ ⟨(blk_cell BKr.out 4).trans rfl, (blk_cell BKr.out 8).trans rfl, (blk_cell BKg3.out 0).trans rfl, (blk_cell BKg3.out 1).trans rfl, (blk_cell BKg3.out 2).trans rfl, (blk_cell BKg3.out 3).trans rfl⟩ (fun hHeld => ?_)
 clear hK K
 refine norm_ (a' := ?_) ?_ ?_
 rotate_left
 ·
  show Act.put _ (some 67) _ = _
  simp only [sP]
  rfl
 refine pv 9 68 ?_ #[X,X,X,X,X,X,X,X,X,X,O] rfl rfl (by kernel_rfl) (fun _ _ _ h => h) ⟨by rfl, ?_⟩ ?_ ?_ ?_; rotate_left; (intro w'; go_simp; with_reducible rfl); rotate_left; (simp only [sP]; rfl)
 refine last_ (i := 10) (N := none) #[X,X,X,X,X,X,X,X,X,X,X] rfl rfl (by kernel_rfl) (by decide) (fun K hK => ?_)
 refine skip_ (w1 := ?_) (by rfl) rfl ?_ ?_
 rotate_left
 ·
  go_simp
  rfl
 refine hK.out _ _ ?_
 clear hK K
 refine done_ (by kernel_rfl) ?_
 obtain ⟨-, -, -, -, hcr_4, -, -, -, hcr_8, -, -, -, -, hfr_4, -, -, -, hfr_8⟩ := cs9 BKr.out
 obtain ⟨⟨hcg3_0, hfg3_0⟩, ⟨hcg3_1, hfg3_1⟩, ⟨hcg3_2, hfg3_2⟩, ⟨hcg3_3, hfg3_3⟩⟩ := cells4 BKg3.out
 go_wp2_with (fail)
 first | go_ret | go_ret2
 have K2 := K1.out.grow (ok' := Gr ok w w7) (fun k hk => ⟨(K1.out.bd k hk).2, .inl hk⟩) (fun k hk => ⟨hk.2.elim (H0.out.base_ k) (fun h => Nat.le_trans H0.out.low h), hk.1⟩)
 have Q2 := Q1.out.below HB.out
 have hold : ∀ k, ok k → k < w.heap.size := fun k hk => (H0.out.bd k hk).2
 have K3 := (K2.setSlot (i := i) (okv := fun k => k < w7.heap.size ∧ w6.heap.size ≤ k) HI.out (Kd.V_mono (Kd.V_bound (Kd.V_lower HV.out (by have := H0.out.low; have := HGa.out.2; have := SZ6.out; have := SZ7.out; omega))) (fun k hk => ⟨hk.2, hk.1⟩)) (fun k hk => ⟨⟨⟨hk.1, .inr (by have := HGa.out.2; have := SZ6.out; have := SZ7.out; omega)⟩, fun e => by have := HZ1.out; have := HGa.out.2; have := SZ6.out; have := SZ7.out; omega, fun e => by have h2 := (hold k (H0.out.2.2.1.1 k e.symm)); have := HGa.out.2; have := SZ6.out; have := SZ7.out; omega⟩, by have := HGa.out.1; have := SZ6.out; have := SZ7.out; omega⟩)).1
 have K4 := K3.setD (off' := false) (cut' := (wrap64 (cut - 1))) (wr' := wrap64 (wr + 1)) 8 (.int .i64 (wrap64 (wr + 1))) rfl
 have hog : ok g := (H0.out.2.1.1 g rfl).1
 have Q3 := Q2.cell (g := g) (j := i) hog (H0.out.base_ g hog) (.slice v_A x.f3.length v_c)
 have Q4 := Q3.cell (g := r) (j := 8) H0.out.ok_ (H0.out.base_ r H0.out.ok_) (.int .i64 (wrap64 (wr + 1)))
 exact ⟨rfl, K4.gr H0.out.low (fun k hk => hk.2) H0.out.base_, Q4⟩
set_option maxHeartbeats 8000000 in
set_option maxRecDepth 100000 in
theorem RWrite_free (r : Nat) (As Ag : Option Addr) (n cs m cg : Nat) (a b c d : Int) (slots : List (List Int)) (gone : List Bool) (off : Bool) (cut wr : Int) (base : Nat) (ok : Nat → Prop) (x : S51) (B : Option Addr) (cc : Nat) (w : World) (H : RefO w base ok r As n cs Ag m cg a b c d slots gone off cut wr) (hm : (m : Int) = a + b) (hm2 : m ≤ 16) (hd : 0 ≤ d ∧ d ≤ 4096) (ho : off = false) (i : Nat) (hat : atOf m d x.f0 x.f1 x.f2 = (i : Int)) (hi : i < slots.length) (hl : (x.f3.length : Int) = sizeOf08 a b c) (hc : cut < 0) (okl : Nat → Prop) (hF : Kd.F (Kd.int .u8) w okl B x.f3.length x.f3) (hdis : ∀ k, okl k → ¬ ok k) (hlb : ∀ k, okl k → k < w.heap.size) (hle : x.f3.length ≤ cc) (hBy : IsB x.f3) (hLn : x.f3.length ≤ 1048576) : Calls Try.prog 52 #[.pointer (some ⟨r, 0, none⟩), .agg #[.int .i64 x.f0, .int .i64 x.f1, .int .i64 x.f2, .slice B x.f3.length cc]] w fun e w' => e = .returned (.int .i64 0) ∧ RefO w' base (Gr ok w w') r As n cs Ag m cg a b c d (slots.set i x.f3) gone false cut (wrap64 (wr + 1)) ∧ Wrote base ok w w' := by
 have hu23 := Try.underlying23
 have hu51 := Try.underlying51
 have hu80 := Try.underlying80
 have hu36 := Try.underlying36
 subst ho
 have _ := trivial
 have d1 : decide ((i : Int) < 0) = false := decide_eq_false (by omega)
 have d2 : ((x.f3.length : Int) == sizeOf08 a b c) = true := beq_iff_eq.mpr hl
 have d3 : decide ((x.f3.length : Int) = sizeOf08 a b c) = true := decide_eq_true hl
 have d4 : (cut == 0) = false := beq_false_of_ne (by omega)
 have d5 : decide (cut = 0) = false := decide_eq_false (by omega)
 have d6 : decide (0 < cut) = false := decide_eq_false (by omega)
 have hln := H.lens
 obtain ⟨g, cap, e, _⟩ := Kd.N_form H.2.1 (by omega)
 injection e with e1 e2 e3
 subst e1
 have f1 : (i < n) = True := eq_true (by omega)
 have f2 : decide ((i : Int) < (n : Int)) = true := decide_eq_true (by omega)
 have HAT := Aside0.mk hat
 have HI := Aside0.mk hi
 have HF := Aside0.mk hF
 have HDI := Aside0.mk hdis
 have HLB := Aside0.mk hlb
 have HLE := Aside0.mk hle
 have HBY := Aside0.mk (bytes8_ev hBy hLn)
 have hnrg : r ≠ g := (H.2.1.1 g rfl).2.1.symm
 have hngr : g ≠ r := hnrg.symm
 have HG := Aside0.mk (show g < w.heap.size from (H.bd g (H.2.1.1 g rfl).1).2)
 clear hi hl hF hdis hlb hle hBy hLn e2 e3 hln
 have HTE := Aside0.mk ((there_ev (c := c) hm hm2 hd x.f0 x.f1 x.f2).trans (congrArg some hat))
 have HSE := Aside0.mk (size8_ev (c := c) (d := d) hm hm2)
 have HB := Aside0.mk (Below.refl w.heap.size w)
 have H0 := Aside0.mk H
 have BKr := Aside0.mk H.1
 have HZ1 := Aside0.mk (show r < w.heap.size from blk_lt H.1)
 clear H hm hm2 hd hat hc
 obtain ⟨hcr_0, hcr_1, hcr_2, hcr_3, hcr_4, hcr_5, hcr_6, -, hcr_8, hfr_0, hfr_1, hfr_2, hfr_3, hfr_4, hfr_5, hfr_6, -, hfr_8⟩ := cs9 BKr.out
 go_enter Try.func52, Try.ntmps52
 have tok1 : True := trivial
 go_wp2_with (first | (have _ := tok1; (with_reducible refine gate_dst (N := 3) rfl ?_); refine box_event rfl (N := 3) rfl (cs := #[.int .i64 x.f0, .int .i64 x.f1, .int .i64 x.f2, .slice B x.f3.length cc]) (t := 51) (by go_simp; try rfl) ?_; intro g3 hg w1 hbox hb; have hs : Below w.heap.size w w1 := below_step Lt8.b hb; have SZ1 := Aside0.mk (show w.heap.size ≤ g3 ∧ g3 < w1.heap.size from ⟨by rw [hg]; exact (below_size Lt8.b), blk_lt hbox⟩); (try clear hcr_0 hfr_0 hcr_1 hfr_1 hcr_2 hfr_2 hcr_3 hfr_3 hcr_4 hfr_4 hcr_5 hfr_5 hcr_6 hfr_6 hcr_8 hfr_8); replace BKr := bb BKr hs; replace HB := hbs HB hs; have q0_ := HZ1.out; have q1_ := SZ1.out; have hner_g3 : r ≠ g3 := (by omega); have hneg3_r := hner_g3.symm; clear q0_ q1_; have BKg3 := Aside0.mk hbox; clear hb hbox hg hs; obtain ⟨hcr_0, hcr_1, hcr_2, hcr_3, hcr_4, hcr_5, hcr_6, -, hcr_8, hfr_0, hfr_1, hfr_2, hfr_3, hfr_4, hfr_5, hfr_6, -, hfr_8⟩ := cs9 BKr.out; obtain ⟨⟨hcg3_0, hfg3_0⟩, ⟨hcg3_1, hfg3_1⟩, ⟨hcg3_2, hfg3_2⟩, ⟨hcg3_3, hfg3_3⟩⟩ := cells4 BKg3.out; clear tok1))
 (try clear hcr_0 hfr_0 hcr_1 hfr_1 hcr_2 hfr_2 hcr_3 hfr_3 hcr_4 hfr_4 hcr_5 hfr_5 hcr_6 hfr_6 hcr_8 hfr_8)
 (try clear hcg3_0 hfg3_0 hcg3_1 hfg3_1 hcg3_2 hfg3_2 hcg3_3 hfg3_3)
 have hs : Below w1.heap.size w1 (World.drew w1) := below_drew1 (Below.refl _ _)
 have SZ2 := Aside0.mk (show w1.heap.size ≤ (World.drew w1).heap.size from hs.size)
 replace BKr := bb BKr hs
 replace BKg3 := bb BKg3 hs
 replace HB := Aside0.mk (below_step HB.out hs)
 clear hs
 refine start_ (n := 13) (S := fun w' => w'.cell? ⟨r, 0, none⟩ = some (.int .i64 a) ∧ w'.cell? ⟨r, 1, none⟩ = some (.int .i64 b) ∧ w'.cell? ⟨r, 2, none⟩ = some (.int .i64 c) ∧ w'.cell? ⟨r, 3, none⟩ = some (.int .i64 d) ∧ w'.cell? ⟨r, 4, none⟩ = some (.slice (some ⟨g, 0, none⟩) n cs) ∧ w'.cell? ⟨r, 5, none⟩ = some (.bool false) ∧ w'.cell? ⟨r, 6, none⟩ = some (.int .i64 cut) ∧ w'.cell? ⟨r, 8, none⟩ = some (.int .i64 wr) ∧ w'.cell? ⟨g3, 0, none⟩ = some (.int .i64 x.f0) ∧ w'.cell? ⟨g3, 1, none⟩ = some (.int .i64 x.f1) ∧ w'.cell? ⟨g3, 2, none⟩ = some (.int .i64 x.f2) ∧ w'.cell? ⟨g3, 3, none⟩ = some (.slice B x.f3.length cc)) (ds := []) #[O,O,O,O,O,O,O,O,O,O,O,O,O] (by kernel_rfl) rfl rfl ⟨(blk_cell BKr.out 0).trans rfl, (blk_cell BKr.out 1).trans rfl, (blk_cell BKr.out 2).trans rfl, (blk_cell BKr.out 3).trans rfl, (blk_cell BKr.out 4).trans rfl, (blk_cell BKr.out 5).trans rfl, (blk_cell BKr.out 6).trans rfl, (blk_cell BKr.out 8).trans rfl, (blk_cell BKg3.out 0).trans rfl, (blk_cell BKg3.out 1).trans rfl, (blk_cell BKg3.out 2).trans rfl, (blk_cell BKg3.out 3).trans rfl⟩ (fun hHeld => ?_)
 generalize World.drew w1 = w2 at HB BKr BKg3 SZ2 hHeld ⊢
 refine pv 0 10 ?_ #[X,O,O,O,O,O,O,O,O,O,O,O,O] rfl rfl (by kernel_rfl) (fun _ _ _ h => h) ⟨by rfl, ?_⟩ ?_ ?_ ?_; rotate_left; (intro w'; go_simp; with_reducible rfl); rotate_left; (simp only [sP]; rfl)
 refine pv 1 11 ?_ #[X,X,O,O,O,O,O,O,O,O,O,O,O] rfl rfl (by kernel_rfl) (fun _ _ _ h => h) ⟨by rfl, ?_⟩ ?_ ?_ ?_; rotate_left; (intro w'; go_simp; with_reducible rfl); rotate_left; (simp only [sP]; rfl)
 refine pv 2 12 ?_ #[X,X,X,O,O,O,O,O,O,O,O,O,O] rfl rfl (by kernel_rfl) (fun _ _ _ h => h) ⟨by rfl, ?_⟩ ?_ ?_ ?_; rotate_left; (intro w'; go_simp; with_reducible rfl); rotate_left; (simp only [sP]; rfl)
 refine pv 3 13 ?_ #[X,X,X,X,O,O,O,O,O,O,O,O,O] rfl rfl (by kernel_rfl) (fun _ _ _ h => h) ⟨by rfl, ?_⟩ ?_ ?_ ?_; rotate_left; (intro w'; go_simp; with_reducible rfl); rotate_left; (simp only [sP]; rfl)
 refine pv 5 15 ?_ #[X,X,X,X,O,X,O,O,O,O,O,O,O] rfl rfl (by kernel_rfl) (fun _ _ _ h => h) ⟨by rfl, ?_⟩ ?_ ?_ ?_; rotate_left; (intro w'; go_simp; with_reducible rfl); rotate_left; (simp only [sP]; rfl)
 refine pv 7 17 ?_ #[X,X,X,X,O,X,O,X,O,O,O,O,O] rfl rfl (by kernel_rfl) (fun _ _ _ h => h) ⟨by rfl, ?_⟩ ?_ ?_ ?_; rotate_left; (intro w'; go_simp; with_reducible rfl); rotate_left; (simp only [sP]; rfl)
 refine pv 9 19 ?_ #[X,X,X,X,O,X,O,X,O,X,O,O,O] rfl rfl (by kernel_rfl) (fun _ _ _ h => h) ⟨by rfl, ?_⟩ ?_ ?_ ?_; rotate_left; (intro w'; go_simp; with_reducible rfl); rotate_left; (simp only [sP]; rfl)
 refine tv 4 14 ?_ #[X,X,X,X,X,X,O,X,O,X,O,O,O] rfl rfl (by kernel_rfl) (fun _ _ _ h => h) ⟨by rfl, ?_⟩ hHeld ?_ ?_ ?_; rotate_left; (rintro w' ⟨s0, s1, s2, s3, s4, s5, s6, s7, s8, s9, s10, s11⟩; go_simp; with_reducible rfl); rotate_left; (simp only [sP]; rfl)
 refine tv 6 16 ?_ #[X,X,X,X,X,X,X,X,O,X,O,O,O] rfl rfl (by kernel_rfl) (fun _ _ _ h => h) ⟨by rfl, ?_⟩ hHeld ?_ ?_ ?_; rotate_left; (rintro w' ⟨s0, s1, s2, s3, s4, s5, s6, s7, s8, s9, s10, s11⟩; go_simp; with_reducible rfl); rotate_left; (simp only [sP]; rfl)
 refine tv 8 18 ?_ #[X,X,X,X,X,X,X,X,X,X,O,O,O] rfl rfl (by kernel_rfl) (fun _ _ _ h => h) ⟨by rfl, ?_⟩ hHeld ?_ ?_ ?_; rotate_left; (rintro w' ⟨s0, s1, s2, s3, s4, s5, s6, s7, s8, s9, s10, s11⟩; go_simp; with_reducible rfl); rotate_left; (simp only [sP]; rfl)
 refine tv 10 20 ?_ #[X,X,X,X,X,X,X,X,X,X,X,O,O] rfl rfl (by kernel_rfl) (fun _ _ _ h => h) ⟨by rfl, ?_⟩ hHeld ?_ ?_ ?_; rotate_left; (rintro w' ⟨s0, s1, s2, s3, s4, s5, s6, s7, s8, s9, s10, s11⟩; go_simp; with_reducible rfl); rotate_left; (simp only [sP]; rfl)
 refine one_ (i := 11) (N := some 21) #[X,X,X,X,X,X,X,X,X,X,X,X,O] rfl rfl (by kernel_rfl) (by decide) (fun K hK => ?_)
 refine goes_ Try.func53 (by kernel_rfl) rfl #[.agg #[.int .i64 a, .int .i64 b, .int .i64 c, .int .i64 d], .int .i64 x.f0, .int .i64 x.f1, .int .i64 x.f2] (by rfl) rfl rfl (by simp only [List.map_toArray, List.map_cons, List.map_nil]; rfl) ?_
 with_reducible refine (twoslotref08_There.calls a b c d x.f0 x.f1 x.f2 (i : Int) _ HTE.out).mono ?_
 rintro e w3 ⟨rfl, hb⟩
 refine ⟨_, rfl, ?_⟩
 have hs : Below w2.heap.size w2 w3 := below_step Lt8.b hb
 skip
 have SZ3 := Aside0.mk (show w2.heap.size ≤ w3.heap.size from hs.size)
 replace BKr := bb BKr hs
 replace BKg3 := bb BKg3 hs
 replace HB := Aside0.mk (below_step HB.out hs)
 clear hs hb
 (try clear hl)
 refine hK.out _ _ ⟨(blk_cell BKr.out 0).trans rfl, (blk_cell BKr.out 1).trans rfl, (blk_cell BKr.out 2).trans rfl, (blk_cell BKr.out 3).trans rfl, (blk_cell BKr.out 4).trans rfl, (blk_cell BKr.out 5).trans rfl, (blk_cell BKr.out 6).trans rfl, (blk_cell BKr.out 8).trans rfl, (blk_cell BKg3.out 0).trans rfl, (blk_cell BKg3.out 1).trans rfl, (blk_cell BKg3.out 2).trans rfl, (blk_cell BKg3.out 3).trans rfl⟩ (fun hHeld => ?_)
 clear hK K
 refine norm_ (a' := ?_) ?_ ?_
 rotate_left
 ·
  show Act.put _ (some 21) _ = _
  simp only [sP]
  rfl
 refine pv 12 5 ?_ #[X,X,X,X,X,X,X,X,X,X,X,X,X] rfl rfl (by kernel_rfl) (fun _ _ _ h => h) ⟨by rfl, ?_⟩ ?_ ?_ ?_; rotate_left; (intro w'; go_simp; with_reducible rfl); rotate_left; (simp only [sP]; rfl)
 refine done_ (by kernel_rfl) ?_
 obtain ⟨hcr_0, hcr_1, hcr_2, hcr_3, hcr_4, hcr_5, hcr_6, -, hcr_8, hfr_0, hfr_1, hfr_2, hfr_3, hfr_4, hfr_5, hfr_6, -, hfr_8⟩ := cs9 BKr.out
 obtain ⟨⟨hcg3_0, hfg3_0⟩, ⟨hcg3_1, hfg3_1⟩, ⟨hcg3_2, hfg3_2⟩, ⟨hcg3_3, hfg3_3⟩⟩ := cells4 BKg3.out
 go_wp2_with (fail)
 (try clear hcr_0 hfr_0 hcr_1 hfr_1 hcr_2 hfr_2 hcr_3 hfr_3 hcr_4 hfr_4 hcr_5 hfr_5 hcr_6 hfr_6 hcr_8 hfr_8)
 (try clear hcg3_0 hfg3_0 hcg3_1 hfg3_1 hcg3_2 hfg3_2 hcg3_3 hfg3_3)
 have hs : Below w3.heap.size w3 (World.drew w3) := below_drew1 (Below.refl _ _)
 have SZ4 := Aside0.mk (show w3.heap.size ≤ (World.drew w3).heap.size from hs.size)
 replace BKr := bb BKr hs
 replace BKg3 := bb BKg3 hs
 replace HB := Aside0.mk (below_step HB.out hs)
 clear hs
 refine start_ (n := 14) (S := fun w' => w'.cell? ⟨r, 0, none⟩ = some (.int .i64 a) ∧ w'.cell? ⟨r, 1, none⟩ = some (.int .i64 b) ∧ w'.cell? ⟨r, 2, none⟩ = some (.int .i64 c) ∧ w'.cell? ⟨r, 3, none⟩ = some (.int .i64 d) ∧ w'.cell? ⟨r, 4, none⟩ = some (.slice (some ⟨g, 0, none⟩) n cs) ∧ w'.cell? ⟨r, 5, none⟩ = some (.bool false) ∧ w'.cell? ⟨r, 6, none⟩ = some (.int .i64 cut) ∧ w'.cell? ⟨r, 8, none⟩ = some (.int .i64 wr) ∧ w'.cell? ⟨g3, 0, none⟩ = some (.int .i64 x.f0) ∧ w'.cell? ⟨g3, 1, none⟩ = some (.int .i64 x.f1) ∧ w'.cell? ⟨g3, 2, none⟩ = some (.int .i64 x.f2) ∧ w'.cell? ⟨g3, 3, none⟩ = some (.slice B x.f3.length cc)) (ds := []) #[O,O,O,O,O,O,O,O,O,O,O,O,O,O] (by kernel_rfl) rfl rfl ⟨(blk_cell BKr.out 0).trans rfl, (blk_cell BKr.out 1).trans rfl, (blk_cell BKr.out 2).trans rfl, (blk_cell BKr.out 3).trans rfl, (blk_cell BKr.out 4).trans rfl, (blk_cell BKr.out 5).trans rfl, (blk_cell BKr.out 6).trans rfl, (blk_cell BKr.out 8).trans rfl, (blk_cell BKg3.out 0).trans rfl, (blk_cell BKg3.out 1).trans rfl, (blk_cell BKg3.out 2).trans rfl, (blk_cell BKg3.out 3).trans rfl⟩ (fun hHeld => ?_)
 generalize World.drew w3 = w4 at HB BKr BKg3 SZ4 hHeld ⊢
 refine pv 0 22 ?_ #[X,O,O,O,O,O,O,O,O,O,O,O,O,O] rfl rfl (by kernel_rfl) (fun _ _ _ h => h) ⟨by rfl, ?_⟩ ?_ ?_ ?_; rotate_left; (intro w'; go_simp; with_reducible rfl); rotate_left; (simp only [sP]; rfl)
 refine pv 1 23 ?_ #[X,X,O,O,O,O,O,O,O,O,O,O,O,O] rfl rfl (by kernel_rfl) (fun _ _ _ h => h) ⟨by rfl, ?_⟩ ?_ ?_ ?_; rotate_left; (intro w'; go_simp; with_reducible rfl); rotate_left; (simp only [sP]; rfl)
 refine pv 2 24 ?_ #[X,X,X,O,O,O,O,O,O,O,O,O,O,O] rfl rfl (by kernel_rfl) (fun _ _ _ h => h) ⟨by rfl, ?_⟩ ?_ ?_ ?_; rotate_left; (intro w'; go_simp; with_reducible rfl); rotate_left; (simp only [sP]; rfl)
 refine pv 3 25 ?_ #[X,X,X,X,O,O,O,O,O,O,O,O,O,O] rfl rfl (by kernel_rfl) (fun _ _ _ h => h) ⟨by rfl, ?_⟩ ?_ ?_ ?_; rotate_left; (intro w'; go_simp; with_reducible rfl); rotate_left; (simp only [sP]; rfl)
 refine pv 6 28 ?_ #[X,X,X,X,O,O,X,O,O,O,O,O,O,O] rfl rfl (by kernel_rfl) (fun _ _ _ h => h) ⟨by rfl, ?_⟩ ?_ ?_ ?_; rotate_left; (intro w'; go_simp; with_reducible rfl); rotate_left; (simp only [sP]; rfl)
 refine pv 7 29 ?_ #[X,X,X,X,O,O,X,X,O,O,O,O,O,O] rfl rfl (by kernel_rfl) (fun _ _ _ h => h) ⟨by rfl, ?_⟩ ?_ ?_ ?_; rotate_left; (intro w'; go_simp; with_reducible rfl); rotate_left; (simp only [sP]; rfl)
 refine pv 8 30 ?_ #[X,X,X,X,O,O,X,X,X,O,O,O,O,O] rfl rfl (by kernel_rfl) (fun _ _ _ h => h) ⟨by rfl, ?_⟩ ?_ ?_ ?_; rotate_left; (intro w'; go_simp; with_reducible rfl); rotate_left; (simp only [sP]; rfl)
 refine pv 9 31 ?_ #[X,X,X,X,O,O,X,X,X,X,O,O,O,O] rfl rfl (by kernel_rfl) (fun _ _ _ h => h) ⟨by rfl, ?_⟩ ?_ ?_ ?_; rotate_left; (intro w'; go_simp; with_reducible rfl); rotate_left; (simp only [sP]; rfl)
 refine tv 4 26 ?_ #[X,X,X,X,X,O,X,X,X,X,O,O,O,O] rfl rfl (by kernel_rfl) (fun _ _ _ h => h) ⟨by rfl, ?_⟩ hHeld ?_ ?_ ?_; rotate_left; (rintro w' ⟨s0, s1, s2, s3, s4, s5, s6, s7, s8, s9, s10, s11⟩; go_simp; with_reducible rfl); rotate_left; (simp only [sP]; rfl)
 refine pv 5 27 ?_ #[X,X,X,X,X,X,X,X,X,X,O,O,O,O] rfl rfl (by kernel_rfl) (fun _ _ _ h => h) ⟨by rfl, ?_⟩ ?_ ?_ ?_; rotate_left; (intro w'; go_simp; with_reducible rfl); rotate_left; (simp only [sP]; rfl)
 refine tv 10 32 ?_ #[X,X,X,X,X,X,X,X,X,X,X,O,O,O] rfl rfl (by kernel_rfl) (fun _ _ _ h => h) ⟨by rfl, ?_⟩ hHeld ?_ ?_ ?_; rotate_left; (rintro w' ⟨s0, s1, s2, s3, s4, s5, s6, s7, s8, s9, s10, s11⟩; go_simp; with_reducible rfl); rotate_left; (simp only [sP]; rfl)
 refine one_ (i := 11) (N := some 33) #[X,X,X,X,X,X,X,X,X,X,X,X,O,O] rfl rfl (by kernel_rfl) (by decide) (fun K hK => ?_)
 refine goes_ Try.func51 (by kernel_rfl) rfl #[.agg #[.int .i64 a, .int .i64 b, .int .i64 c, .int .i64 d]] (by rfl) rfl rfl (by simp only [List.map_toArray, List.map_cons, List.map_nil]; rfl) ?_
 with_reducible refine (twoslotref06_Size.calls a b c d (sizeOf08 a b c) _ HSE.out).mono ?_
 rintro e w5 ⟨rfl, hb⟩
 refine ⟨_, rfl, ?_⟩
 have hs : Below w4.heap.size w4 w5 := below_step Lt8.b hb
 skip
 have SZ5 := Aside0.mk (show w4.heap.size ≤ w5.heap.size from hs.size)
 replace BKr := bb BKr hs
 replace BKg3 := bb BKg3 hs
 replace HB := Aside0.mk (below_step HB.out hs)
 clear hs hb
 (try clear hl)
 refine hK.out _ _ ⟨(blk_cell BKr.out 0).trans rfl, (blk_cell BKr.out 1).trans rfl, (blk_cell BKr.out 2).trans rfl, (blk_cell BKr.out 3).trans rfl, (blk_cell BKr.out 4).trans rfl, (blk_cell BKr.out 5).trans rfl, (blk_cell BKr.out 6).trans rfl, (blk_cell BKr.out 8).trans rfl, (blk_cell BKg3.out 0).trans rfl, (blk_cell BKg3.out 1).trans rfl, (blk_cell BKg3.out 2).trans rfl, (blk_cell BKg3.out 3).trans rfl⟩ (fun hHeld => ?_)
 clear hK K
 refine norm_ (a' := ?_) ?_ ?_
 rotate_left
 ·
  show Act.put _ (some 33) _ = _
  simp only [sP]
  rfl
 refine pv 12 34 ?_ #[X,X,X,X,X,X,X,X,X,X,X,X,X,O] rfl rfl (by kernel_rfl) (fun _ _ _ h => h) ⟨by rfl, ?_⟩ ?_ ?_ ?_; rotate_left; (intro w'; go_simp; with_reducible rfl); rotate_left; (simp only [sP]; rfl)
 refine pv 13 35 ?_ #[X,X,X,X,X,X,X,X,X,X,X,X,X,X] rfl rfl (by kernel_rfl) (fun _ _ _ h => h) ⟨by rfl, ?_⟩ ?_ ?_ ?_; rotate_left; (intro w'; go_simp; with_reducible rfl); rotate_left; (simp only [sP]; rfl)
 refine done_ (by kernel_rfl) ?_
 obtain ⟨hcr_0, hcr_1, hcr_2, hcr_3, hcr_4, hcr_5, hcr_6, -, hcr_8, hfr_0, hfr_1, hfr_2, hfr_3, hfr_4, hfr_5, hfr_6, -, hfr_8⟩ := cs9 BKr.out
 obtain ⟨⟨hcg3_0, hfg3_0⟩, ⟨hcg3_1, hfg3_1⟩, ⟨hcg3_2, hfg3_2⟩, ⟨hcg3_3, hfg3_3⟩⟩ := cells4 BKg3.out
 go_wp2_with (fail)
 (try clear hcr_0 hfr_0 hcr_1 hfr_1 hcr_2 hfr_2 hcr_3 hfr_3 hcr_4 hfr_4 hcr_5 hfr_5 hcr_6 hfr_6 hcr_8 hfr_8)
 (try clear hcg3_0 hfg3_0 hcg3_1 hfg3_1 hcg3_2 hfg3_2 hcg3_3 hfg3_3)
 have hrg3 : g3 ≠ r := by have := HZ1.out; have := HZ1.out; have := SZ1.out; have := SZ2.out; have := SZ3.out; have := SZ4.out; have := SZ5.out; omega
 have K1 := Aside0.mk (H0.out.below HB.out)
 have Q1 := Aside0.mk ((Wrote.start (ok := ok) H0.out.low).below HB.out)
 have BK3 := BKg3
 have HF1 := Aside0.mk (Kd.F_below HF.out HB.out)
 have SZs := Aside0.mk (rfl : w5.heap.size = w5.heap.size)
 generalize w5 = wa at K1 Q1 BK3 HF1 SZs ⊢
 clear BKr BKg3 HB
 have BKr := Aside0.mk K1.out.1
 have BKg3 := BK3
 have HB := Aside0.mk (Below.refl wa.heap.size wa)
 have HGa := Aside0.mk (show g < wa.heap.size ∧ w.heap.size ≤ wa.heap.size from ⟨Nat.lt_of_lt_of_le HG.out Q1.out.2.1.size, Q1.out.2.1.size⟩)
 clear BK3
 obtain ⟨-, -, -, -, hcr_4, -, -, -, hcr_8, -, -, -, -, hfr_4, -, -, -, hfr_8⟩ := cs9 BKr.out
 obtain ⟨⟨hcg3_0, hfg3_0⟩, ⟨hcg3_1, hfg3_1⟩, ⟨hcg3_2, hfg3_2⟩, ⟨hcg3_3, hfg3_3⟩⟩ := cells4 BKg3.out
 (try clear hcr_4 hfr_4 hcr_8 hfr_8)
 (try clear hcg3_0 hfg3_0 hcg3_1 hfg3_1 hcg3_2 hfg3_2 hcg3_3 hfg3_3)
 have hs : Below wa.heap.size wa (World.drew wa) := below_drew1 (Below.refl _ _)
 have SZ6 := Aside0.mk (show wa.heap.size ≤ (World.drew wa).heap.size from hs.size)
 replace BKr := bb BKr hs
 replace BKg3 := bb BKg3 hs
 replace HF1 := Aside0.mk (Kd.F_below HF1.out hs)
 replace K1 := Aside0.mk (RefO.below K1.out hs)
 replace HB := Aside0.mk (below_step HB.out hs)
 clear hs
 refine start_ (n := 11) (S := fun w' => w'.cell? ⟨r, 4, none⟩ = some (.slice (some ⟨g, 0, none⟩) n cs) ∧ w'.cell? ⟨r, 8, none⟩ = some (.int .i64 wr) ∧ w'.cell? ⟨g3, 0, none⟩ = some (.int .i64 x.f0) ∧ w'.cell? ⟨g3, 1, none⟩ = some (.int .i64 x.f1) ∧ w'.cell? ⟨g3, 2, none⟩ = some (.int .i64 x.f2) ∧ w'.cell? ⟨g3, 3, none⟩ = some (.slice B x.f3.length cc)) (ds := [10]) #[O,O,O,O,O,O,O,O,O,O,O] (by kernel_rfl) rfl rfl ⟨(blk_cell BKr.out 4).trans rfl, (blk_cell BKr.out 8).trans rfl, (blk_cell BKg3.out 0).trans rfl, (blk_cell BKg3.out 1).trans rfl, (blk_cell BKg3.out 2).trans rfl, (blk_cell BKg3.out 3).trans rfl⟩ (fun hHeld => ?_)
 generalize World.drew wa = w6 at HB BKr BKg3 HF1 K1 SZ6 hHeld ⊢
 refine pv 0 59 ?_ #[X,O,O,O,O,O,O,O,O,O,O] rfl rfl (by kernel_rfl) (fun _ _ _ h => h) ⟨by rfl, ?_⟩ ?_ ?_ ?_; rotate_left; (intro w'; go_simp; with_reducible rfl); rotate_left; (simp only [sP]; rfl)
 refine pv 1 60 ?_ #[X,X,O,O,O,O,O,O,O,O,O] rfl rfl (by kernel_rfl) (fun _ _ _ h => h) ⟨by rfl, ?_⟩ ?_ ?_ ?_; rotate_left; (intro w'; go_simp; with_reducible rfl); rotate_left; (simp only [sP]; rfl)
 refine pv 2 61 ?_ #[X,X,X,O,O,O,O,O,O,O,O] rfl rfl (by kernel_rfl) (fun _ _ _ h => h) ⟨by rfl, ?_⟩ ?_ ?_ ?_; rotate_left; (intro w'; go_simp; with_reducible rfl); rotate_left; (simp only [sP]; rfl)
 refine pv 3 62 ?_ #[X,X,X,X,O,O,O,O,O,O,O] rfl rfl (by kernel_rfl) (fun _ _ _ h => h) ⟨by rfl, ?_⟩ ?_ ?_ ?_; rotate_left; (intro w'; go_simp; with_reducible rfl); rotate_left; (simp only [sP]; rfl)
 refine pv 5 64 ?_ #[X,X,X,X,O,X,O,O,O,O,O] rfl rfl (by kernel_rfl) (fun _ _ _ h => h) ⟨by rfl, ?_⟩ ?_ ?_ ?_; rotate_left; (intro w'; go_simp; with_reducible rfl); rotate_left; (simp only [sP]; rfl)
 refine pv 6 65 ?_ #[X,X,X,X,O,X,X,O,O,O,O] rfl rfl (by kernel_rfl) (fun _ _ _ h => h) ⟨by rfl, ?_⟩ ?_ ?_ ?_; rotate_left; (intro w'; go_simp; with_reducible rfl); rotate_left; (simp only [sP]; rfl)
 refine tv 4 63 ?_ #[X,X,X,X,X,X,X,O,O,O,O] rfl rfl (by kernel_rfl) (fun _ _ _ h => h) ⟨by rfl, ?_⟩ hHeld ?_ ?_ ?_; rotate_left; (rintro w' ⟨s0, s1, s2, s3, s4, s5⟩; go_simp; with_reducible rfl); rotate_left; (simp only [sP]; rfl)
 refine tv 7 66 ?_ #[X,X,X,X,X,X,X,X,O,O,O] rfl rfl (by kernel_rfl) (fun _ _ _ h => h) ⟨by rfl, ?_⟩ hHeld ?_ ?_ ?_; rotate_left; (rintro w' ⟨s0, s1, s2, s3, s4, s5⟩; go_simp; with_reducible rfl); rotate_left; (simp only [sP]; rfl)
 refine one_ (i := 8) (N := some 67) #[X,X,X,X,X,X,X,X,X,O,O] rfl rfl (by kernel_rfl) (by decide) (fun K hK => ?_)
 refine goes_ Try.func33 (by kernel_rfl) rfl #[.slice B x.f3.length cc] (by rfl) rfl rfl (by simp only [List.map_toArray, List.map_cons, List.map_nil]; rfl) ?_
 with_reducible refine (twoslotref08_Bytes.calls B cc x.f3 x.f3 _ ?s1 HLE.out HBY.out).mono ?_
 (case s1 => exact Kd.F_now (Kd.F_below HF1.out Lt8.b))
 rintro e w7 ⟨v, rfl, ho, hb⟩
 refine ⟨_, rfl, ?_⟩
 have hs : Below w6.heap.size w6 w7 := below_step Lt8.b hb
 skip
 have SZ7 := Aside0.mk (show w6.heap.size ≤ w7.heap.size from hs.size)
 replace BKr := bb BKr hs
 replace BKg3 := bb BKg3 hs
 replace HF1 := Aside0.mk (Kd.F_below HF1.out hs)
 replace K1 := Aside0.mk (RefO.below K1.out hs)
 have HV := Aside0.mk ho
 clear ho
 obtain ⟨v_A, v_c, e_⟩ := Kd.V_slice HV.out
 subst e_
 obtain ⟨s_A, s_c, hcu, hfu, _, _⟩ := K1.out.slotCell (i := i) HI.out
 have hcw : w7.heap.size = w7.heap.size := rfl
 replace HB := Aside0.mk (below_step HB.out hs)
 clear hs hb
 (try clear hl)
 refine hK.out _ _ ⟨(blk_cell BKr.out 4).trans rfl, (blk_cell BKr.out 8).trans rfl, (blk_cell BKg3.out 0).trans rfl, (blk_cell BKg3.out 1).trans rfl, (blk_cell BKg3.out 2).trans rfl, (blk_cell BKg3.out 3).trans rfl⟩ (fun hHeld => ?_)
 clear hK K
 refine norm_ (a' := ?_) ?_ ?_
 rotate_left
 ·
  show Act.put _ (some 67) _ = _
  simp only [sP]
  rfl
 refine pv 9 68 ?_ #[X,X,X,X,X,X,X,X,X,X,O] rfl rfl (by kernel_rfl) (fun _ _ _ h => h) ⟨by rfl, ?_⟩ ?_ ?_ ?_; rotate_left; (intro w'; go_simp; with_reducible rfl); rotate_left; (simp only [sP]; rfl)
 refine last_ (i := 10) (N := none) #[X,X,X,X,X,X,X,X,X,X,X] rfl rfl (by kernel_rfl) (by decide) (fun K hK => ?_)
 refine skip_ (w1 := ?_) (by rfl) rfl ?_ ?_
 rotate_left
 ·
  go_simp
  rfl
 refine hK.out _ _ ?_
 clear hK K
 refine done_ (by kernel_rfl) ?_
 obtain ⟨-, -, -, -, hcr_4, -, -, -, hcr_8, -, -, -, -, hfr_4, -, -, -, hfr_8⟩ := cs9 BKr.out
 obtain ⟨⟨hcg3_0, hfg3_0⟩, ⟨hcg3_1, hfg3_1⟩, ⟨hcg3_2, hfg3_2⟩, ⟨hcg3_3, hfg3_3⟩⟩ := cells4 BKg3.out
 go_wp2_with (fail)
 first | go_ret | go_ret2
 have K2 := K1.out.grow (ok' := Gr ok w w7) (fun k hk => ⟨(K1.out.bd k hk).2, .inl hk⟩) (fun k hk => ⟨hk.2.elim (H0.out.base_ k) (fun h => Nat.le_trans H0.out.low h), hk.1⟩)
 have Q2 := Q1.out.below HB.out
 have hold : ∀ k, ok k → k < w.heap.size := fun k hk => (H0.out.bd k hk).2
 have K3 := (K2.setSlot (i := i) (okv := fun k => k < w7.heap.size ∧ w6.heap.size ≤ k) HI.out (Kd.V_mono (Kd.V_bound (Kd.V_lower HV.out (by have := H0.out.low; have := HGa.out.2; have := SZ6.out; have := SZ7.out; omega))) (fun k hk => ⟨hk.2, hk.1⟩)) (fun k hk => ⟨⟨⟨hk.1, .inr (by have := HGa.out.2; have := SZ6.out; have := SZ7.out; omega)⟩, fun e => by have := HZ1.out; have := HGa.out.2; have := SZ6.out; have := SZ7.out; omega, fun e => by have h2 := (hold k (H0.out.2.2.1.1 k e.symm)); have := HGa.out.2; have := SZ6.out; have := SZ7.out; omega⟩, by have := HGa.out.1; have := SZ6.out; have := SZ7.out; omega⟩)).1
 have K4 := K3.setD (off' := false) (cut' := cut) (wr' := wrap64 (wr + 1)) 8 (.int .i64 (wrap64 (wr + 1))) rfl
 have hog : ok g := (H0.out.2.1.1 g rfl).1
 have Q3 := Q2.cell (g := g) (j := i) hog (H0.out.base_ g hog) (.slice v_A x.f3.length v_c)
 have Q4 := Q3.cell (g := r) (j := 8) H0.out.ok_ (H0.out.base_ r H0.out.ok_) (.int .i64 (wrap64 (wr + 1)))
 exact ⟨rfl, K4.gr H0.out.low (fun k hk => hk.2) H0.out.base_, Q4⟩
end Go.Proofs.Ytemmhgfjfbdggaa.P

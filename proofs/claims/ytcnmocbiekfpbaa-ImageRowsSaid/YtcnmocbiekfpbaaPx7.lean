-- Written by a program of this session, after the kit's print.
import Derived.Test.YtcnmocbiekfpbaaPx0
import Derived.Test.YtcnmocbiekfpbaaP0Short
import Derived.Test.YtcnmocbiekfpbaaPx1
import Derived.Test.YtcnmocbiekfpbaaPx4
import Derived.Test.YtcnmocbiekfpbaaPx5
namespace Go.Proofs.Ytcnmocbiekfpbaa.P
open Go.RowKit Go.Proofs.YtcnmocbiekfpbaaW.PrintWords Go.Proofs.YtcnmocbiekfpbaaW.PrintLast Go.Proofs.YtcnmocbiekfpbaaW.PrintMore
attribute [local go_sem] max2_int min2_int max_two min_two max_three min_three max_four min_four   -- for this text's walks alone
set_option linter.unusedVariables false
set_option linter.unusedSimpArgs false

attribute [local go_sem high] eqA24
theorem lit_C {W : World} {g : Nat} {x : S35} {A3 : Option Addr} {c3 : Nat} (h : W.heap[g]? = some (.cells #[.int .i64 x.f0, .int .i64 x.f1, .int .i64 x.f2, .slice A3 x.f3.length c3] 35 (0, 0))) (hle : x.f3.length ≤ c3) (hC : Kd.C (Kd.int .u8) W A3 x.f3.length x.f3) : Kd.C k35 W (some ⟨g, 0, none⟩) [x].length [x] := by
 refine ⟨rfl, by simp, fun _ => ⟨_, rfl, fun j p hj => ?_⟩⟩
 obtain ⟨hj1, hj2⟩ := List.getElem?_eq_some_iff.mp hj
 have h0 : j = 0 := by simpa using hj1
 subst h0
 obtain rfl : x = p := hj2
 refine ⟨_, rfl, k35_mk W x hle hC, fun i u hu => ?_⟩
 have e : ((⟨g, 0, none⟩ : Addr).add (0 * k35.sz + i)) = ⟨g, i, none⟩ := by
  unfold Addr.add
  by_cases hi : i = 0
  ·
   subst hi
   simp
  ·
   rw [if_neg (by omega)]
   simp
 rw [e, blk_cell h i, ← hu]
 simp
theorem lit_event {P : Program} {ops : Array Oper} {rest : List Oper} {o : Oper} {a : Act} {Q : Exit → Act → World → Prop} {W : World} (hgd : o.guard = none) {N : Tmp} (_hd : o.dst = some N) {cs : Array Value} {t : TypeId} {k : Nat}
  (hrun : (execOp a.eval o).run P W = .ok (.value (.slice (some ⟨W.heap.size, 0, none⟩) k k)) (W.alloc (.cells cs t (0, 0))))
  (h : ∀ g, g = W.heap.size → ∀ w1, w1.heap[g]? = some (.cells cs t (0, 0)) → Below W.heap.size W w1 → wpList P ops Q rest (a.put o.dst (.slice (some ⟨g, 0, none⟩) k k)) w1) : wpList P ops Q (o :: rest) a W :=
 Kd.event_run hgd hrun (h _ rfl _ (blk_new W _) (below_alloc (Below.refl _ _) _))
def image_Put.f (k : Nat) (a0_0 : Int) (a0_1 : Int) (a0_2 : Int) (a0_3 : Int) (l0_4 : List (List Int)) (a1_0 : Int) (a1_1 : Int) (a1_2 : Int) (l1_3 : List Int) : Option (Int × Int × Int × Int × List (List Int) × Int) := image_After.f k a0_0 a0_1 a0_2 a0_3 l0_4 [⟨a1_0, a1_1, a1_2, l1_3⟩] 1
theorem After_one (k0 : Nat) (a b c d : Int) (Am : Option Addr) (cm : Nat) (sl : List (List Int)) (g : Nat) (x : S35) (p q u v : Int) (s : List (List Int)) (e0 : Int) (w : World) (hCm : Kd.C (Kd.slice 5 (Kd.int .u8)) w Am sl.length sl) (hcm : sl.length ≤ cm) (hL : Kd.C k35 w (some ⟨g, 0, none⟩) [x].length [x]) (h : image_After.f k0 a b c d sl [x] 1 = some (p, q, u, v, s, e0)) : Calls Try.prog 13 #[.agg #[.int .i64 a, .int .i64 b, .int .i64 c, .int .i64 d, .slice Am sl.length cm], .slice (some ⟨g, 0, none⟩) 1 1, .int .i64 1] w fun e w' => ∃ v4_ : Value, e = .returned (.tuple #[.agg #[.int .i64 p, .int .i64 q, .int .i64 u, .int .i64 v, v4_], .int .i64 e0]) ∧ Kd.S (Kd.slice 5 (Kd.int .u8)) 33 w' w.heap.size (fun _ => True) v4_ s ∧ Below w.heap.size w w' :=
 image_After.calls k0 a b c d Am cm sl (some ⟨g, 0, none⟩) 1 [x] 1 p q u v s e0 w hCm hcm hL (Nat.le_refl _) h
set_option maxHeartbeats 8000000 in
set_option maxRecDepth 100000 in
theorem Put_walk (k0 : Nat) (a b c d : Int) (Am : Option Addr) (cm : Nat) (sl : List (List Int)) (x : S35) (A3 : Option Addr) (c3 : Nat) (p q u v : Int) (s : List (List Int)) (e0 : Int) (w : World) (hCm : Kd.C (Kd.slice 5 (Kd.int .u8)) w Am sl.length sl) (hcm : sl.length ≤ cm) (hC : Kd.C (Kd.int .u8) w A3 x.f3.length x.f3) (hle : x.f3.length ≤ c3) (h : image_After.f k0 a b c d sl [x] 1 = some (p, q, u, v, s, e0)) : Calls Try.prog 22 #[.agg #[.int .i64 a, .int .i64 b, .int .i64 c, .int .i64 d, .slice Am sl.length cm], .agg #[.int .i64 x.f0, .int .i64 x.f1, .int .i64 x.f2, .slice A3 x.f3.length c3]] w fun e w' => ∃ v4_ : Value, e = .returned (.tuple #[.agg #[.int .i64 p, .int .i64 q, .int .i64 u, .int .i64 v, v4_], .int .i64 e0]) ∧ Kd.S (Kd.slice 5 (Kd.int .u8)) 33 w' w.heap.size (fun _ => True) v4_ s ∧ Below w.heap.size w w' := by
 have hu27 := Try.underlying27
 have hu35 := Try.underlying35
 have HB := Aside0.mk (Below.refl w.heap.size w)
 have HCm := Aside0.mk hCm
 have HCM := Aside0.mk hcm
 have HC := Aside0.mk hC
 have ALE := Aside0.mk hle
 have HF := Aside0.mk h
 clear hCm hcm hC hle h
 go_enter Try.func22, Try.ntmps22
 have tok1 : True := trivial
 go_wp2_with (first | (have _ := tok1; (with_reducible refine gate_dst (N := 2) rfl ?_); refine box_event rfl (N := 2) rfl (cs := #[.int .i64 a, .int .i64 b, .int .i64 c, .int .i64 d, .slice Am sl.length cm]) (t := 27) (by go_simp; try rfl) ?_; intro g2 hg w1 hbox hb; have hs : Below w.heap.size w w1 := below_step (by repeat (first | exact Below.refl _ _ | apply below_alloc | apply pw_below_drewN | apply below_drew1)) hb; have SZ1 := Aside0.mk (show w.heap.size ≤ g2 ∧ g2 < w1.heap.size from ⟨by rw [hg]; exact (below_size (by repeat (first | exact Below.refl _ _ | apply below_alloc | apply pw_below_drewN | apply below_drew1))), blk_lt hbox⟩); replace HB := Aside0.mk (below_step HB.out hs); have BKg2 := Aside0.mk hbox; clear hb hbox hg hs; obtain ⟨hcg2_0, hcg2_1, hcg2_2, hcg2_3, hcg2_4, hfg2_0, hfg2_1, hfg2_2, hfg2_3, hfg2_4⟩ := cs5 BKg2.out; clear tok1; have tok2 : True := trivial) | (have _ := tok2; (with_reducible refine gate_dst (N := 3) rfl ?_); refine box_event rfl (N := 3) rfl (cs := #[.int .i64 x.f0, .int .i64 x.f1, .int .i64 x.f2, .slice A3 x.f3.length c3]) (t := 35) (by go_simp; try rfl) ?_; intro g3 hg w2 hbox hb; have hs : Below w1.heap.size w1 w2 := below_step (by repeat (first | exact Below.refl _ _ | apply below_alloc | apply pw_below_drewN | apply below_drew1)) hb; have SZ2 := Aside0.mk (show w1.heap.size ≤ g3 ∧ g3 < w2.heap.size from ⟨by rw [hg]; exact (below_size (by repeat (first | exact Below.refl _ _ | apply below_alloc | apply pw_below_drewN | apply below_drew1))), blk_lt hbox⟩); (try clear hcg2_0 hfg2_0); (try clear hcg2_1 hfg2_1); (try clear hcg2_2 hfg2_2); (try clear hcg2_3 hfg2_3); (try clear hcg2_4 hfg2_4); replace BKg2 := Aside0.mk (blk_below BKg2.out hs); replace HB := Aside0.mk (below_step HB.out hs); have hneg2_g3 : g2 ≠ g3 := (by have := SZ2.out; have := SZ1.out; omega); have hneg3_g2 : g3 ≠ g2 := hneg2_g3.symm; have BKg3 := Aside0.mk hbox; clear hb hbox hg hs; obtain ⟨hcg2_0, hcg2_1, hcg2_2, hcg2_3, hcg2_4, hfg2_0, hfg2_1, hfg2_2, hfg2_3, hfg2_4⟩ := cs5 BKg2.out; obtain ⟨hcg3_0, hcg3_1, hcg3_2, hcg3_3, hfg3_0, hfg3_1, hfg3_2, hfg3_3⟩ := cs4 BKg3.out; clear tok2; have tok3 : True := trivial) | (have _ := tok3; (with_reducible refine gate_dst (N := 4) rfl ?_); refine box_event rfl (N := 4) rfl (cs := #[.int .i64 0, .int .i64 0, .int .i64 0, .int .i64 0, .slice none 0 0]) (t := 27) (by go_simp; try rfl) ?_; intro g4 hg w3 hbox hb; have hs : Below w2.heap.size w2 w3 := below_step (by repeat (first | exact Below.refl _ _ | apply below_alloc | apply pw_below_drewN | apply below_drew1)) hb; have SZ3 := Aside0.mk (show w2.heap.size ≤ g4 ∧ g4 < w3.heap.size from ⟨by rw [hg]; exact (below_size (by repeat (first | exact Below.refl _ _ | apply below_alloc | apply pw_below_drewN | apply below_drew1))), blk_lt hbox⟩); (try clear hcg2_0 hfg2_0); (try clear hcg2_1 hfg2_1); (try clear hcg2_2 hfg2_2); (try clear hcg2_3 hfg2_3); (try clear hcg2_4 hfg2_4); (try clear hcg3_0 hfg3_0); (try clear hcg3_1 hfg3_1); (try clear hcg3_2 hfg3_2); (try clear hcg3_3 hfg3_3); replace BKg2 := Aside0.mk (blk_below BKg2.out hs); replace BKg3 := Aside0.mk (blk_below BKg3.out hs); replace HB := Aside0.mk (below_step HB.out hs); have hneg2_g4 : g2 ≠ g4 := (by have := SZ3.out; have := SZ1.out; have := SZ2.out; omega); have hneg4_g2 : g4 ≠ g2 := hneg2_g4.symm; have hneg3_g4 : g3 ≠ g4 := (by have := SZ3.out; have := SZ1.out; have := SZ2.out; omega); have hneg4_g3 : g4 ≠ g3 := hneg3_g4.symm; have BKg4 := Aside0.mk hbox; clear hb hbox hg hs; obtain ⟨hcg2_0, hcg2_1, hcg2_2, hcg2_3, hcg2_4, hfg2_0, hfg2_1, hfg2_2, hfg2_3, hfg2_4⟩ := cs5 BKg2.out; obtain ⟨hcg3_0, hcg3_1, hcg3_2, hcg3_3, hfg3_0, hfg3_1, hfg3_2, hfg3_3⟩ := cs4 BKg3.out; obtain ⟨hcg4_0, hcg4_1, hcg4_2, hcg4_3, hcg4_4, hfg4_0, hfg4_1, hfg4_2, hfg4_3, hfg4_4⟩ := cs5 BKg4.out; clear tok3; have tok4 : True := trivial) | (have _ := tok4; (with_reducible refine gate_dst (N := 8) rfl ?_); refine lit_event ?hg (N := 8) (k := 1) ?hd (cs := #[.int .i64 x.f0, .int .i64 x.f1, .int .i64 x.f2, .slice A3 x.f3.length c3]) (t := 35) ?hr ?_; (case hd => rfl); (case hg => rfl); (case hr => first | (go_simp; done) | (go_simp; rfl)); intro g8 hg w4 hbox hb; have hs : Below w3.heap.size w3 w4 := below_step (by repeat (first | exact Below.refl _ _ | apply below_alloc | apply pw_below_drewN | apply below_drew1)) hb; have SZ4 := Aside0.mk (show w3.heap.size ≤ g8 ∧ g8 < w4.heap.size from ⟨by rw [hg]; exact (below_size (by repeat (first | exact Below.refl _ _ | apply below_alloc | apply pw_below_drewN | apply below_drew1))), blk_lt hbox⟩); (try clear hcg2_0 hfg2_0); (try clear hcg2_1 hfg2_1); (try clear hcg2_2 hfg2_2); (try clear hcg2_3 hfg2_3); (try clear hcg2_4 hfg2_4); (try clear hcg3_0 hfg3_0); (try clear hcg3_1 hfg3_1); (try clear hcg3_2 hfg3_2); (try clear hcg3_3 hfg3_3); (try clear hcg4_0 hfg4_0); (try clear hcg4_1 hfg4_1); (try clear hcg4_2 hfg4_2); (try clear hcg4_3 hfg4_3); (try clear hcg4_4 hfg4_4); replace BKg2 := Aside0.mk (blk_below BKg2.out hs); replace BKg3 := Aside0.mk (blk_below BKg3.out hs); replace BKg4 := Aside0.mk (blk_below BKg4.out hs); replace HB := Aside0.mk (below_step HB.out hs); have hneg2_g8 : g2 ≠ g8 := (by have := SZ4.out; have := SZ1.out; have := SZ2.out; have := SZ3.out; omega); have hneg8_g2 : g8 ≠ g2 := hneg2_g8.symm; have hneg3_g8 : g3 ≠ g8 := (by have := SZ4.out; have := SZ1.out; have := SZ2.out; have := SZ3.out; omega); have hneg8_g3 : g8 ≠ g3 := hneg3_g8.symm; have hneg4_g8 : g4 ≠ g8 := (by have := SZ4.out; have := SZ1.out; have := SZ2.out; have := SZ3.out; omega); have hneg8_g4 : g8 ≠ g4 := hneg4_g8.symm; have BKg8 := Aside0.mk hbox; clear hb hbox hg hs; obtain ⟨hcg2_0, hcg2_1, hcg2_2, hcg2_3, hcg2_4, hfg2_0, hfg2_1, hfg2_2, hfg2_3, hfg2_4⟩ := cs5 BKg2.out; obtain ⟨hcg3_0, hcg3_1, hcg3_2, hcg3_3, hfg3_0, hfg3_1, hfg3_2, hfg3_3⟩ := cs4 BKg3.out; obtain ⟨hcg4_0, hcg4_1, hcg4_2, hcg4_3, hcg4_4, hfg4_0, hfg4_1, hfg4_2, hfg4_3, hfg4_4⟩ := cs5 BKg4.out; obtain ⟨hcg8_0, hcg8_1, hcg8_2, hcg8_3, hfg8_0, hfg8_1, hfg8_2, hfg8_3⟩ := cs4 BKg8.out; clear tok4; have tok5 : True := trivial) | (have _ := tok5; go_at_call 13; (with_reducible refine (After_one k0 a b c d Am cm sl g8 x p q u v s e0 _ ?s1 HCM.out ?s2 HF.out).mono ?_); (case s1 => exact Kd.C_below HCm.out (by repeat (first | exact HB.out | apply below_alloc | apply pw_below_drewN | apply below_drew1))); (case s2 => exact lit_C (by first | exact BKg8.out | (refine sO ?_; exact BKg8.out)) ALE.out (Kd.C_below HC.out (by repeat (first | exact HB.out | apply below_alloc | apply pw_below_drewN | apply below_drew1)))); rintro e w5 ⟨vt, rfl, ho, hb⟩; (try clear hcg2_0 hfg2_0); (try clear hcg2_1 hfg2_1); (try clear hcg2_2 hfg2_2); (try clear hcg2_3 hfg2_3); (try clear hcg2_4 hfg2_4); (try clear hcg3_0 hfg3_0); (try clear hcg3_1 hfg3_1); (try clear hcg3_2 hfg3_2); (try clear hcg3_3 hfg3_3); (try clear hcg4_0 hfg4_0); (try clear hcg4_1 hfg4_1); (try clear hcg4_2 hfg4_2); (try clear hcg4_3 hfg4_3); (try clear hcg4_4 hfg4_4); (try clear hcg8_0 hfg8_0); (try clear hcg8_1 hfg8_1); (try clear hcg8_2 hfg8_2); (try clear hcg8_3 hfg8_3); have hs : Below w4.heap.size w4 w5 := below_step (by repeat (first | exact Below.refl _ _ | apply below_alloc | apply pw_below_drewN | apply below_drew1)) hb; have hl : w4.heap.size ≤ _ := below_size (w := w4) (by repeat (first | exact Below.refl _ _ | apply below_alloc | apply pw_below_drewN | apply below_drew1)); have SZ5 := Aside0.mk (show w4.heap.size ≤ w5.heap.size from hs.size); replace BKg2 := Aside0.mk (blk_below BKg2.out hs); replace BKg3 := Aside0.mk (blk_below BKg3.out hs); replace BKg4 := Aside0.mk (blk_below BKg4.out hs); replace BKg8 := Aside0.mk (blk_below BKg8.out hs); have HO := Aside0.mk (Kd.S_lower ho (below_size (by repeat (first | exact HB.out | apply below_alloc | apply pw_below_drewN | apply below_drew1)))); replace HB := Aside0.mk (below_step HB.out hs); clear ho; obtain ⟨A9, c9, e_⟩ := Kd.S_slice HO.out; subst e_; clear hb hs; (try clear hl); obtain ⟨hcg2_0, hcg2_1, hcg2_2, hcg2_3, hcg2_4, hfg2_0, hfg2_1, hfg2_2, hfg2_3, hfg2_4⟩ := cs5 BKg2.out; obtain ⟨hcg3_0, hcg3_1, hcg3_2, hcg3_3, hfg3_0, hfg3_1, hfg3_2, hfg3_3⟩ := cs4 BKg3.out; obtain ⟨hcg4_0, hcg4_1, hcg4_2, hcg4_3, hcg4_4, hfg4_0, hfg4_1, hfg4_2, hfg4_3, hfg4_4⟩ := cs5 BKg4.out; obtain ⟨hcg8_0, hcg8_1, hcg8_2, hcg8_3, hfg8_0, hfg8_1, hfg8_2, hfg8_3⟩ := cs4 BKg8.out; clear tok5))
 (try clear hcg2_0 hfg2_0)
 (try clear hcg2_1 hfg2_1)
 (try clear hcg2_2 hfg2_2)
 (try clear hcg2_3 hfg2_3)
 (try clear hcg2_4 hfg2_4)
 (try clear hcg3_0 hfg3_0)
 (try clear hcg3_1 hfg3_1)
 (try clear hcg3_2 hfg3_2)
 (try clear hcg3_3 hfg3_3)
 (try clear hcg4_0 hfg4_0)
 (try clear hcg4_1 hfg4_1)
 (try clear hcg4_2 hfg4_2)
 (try clear hcg4_3 hfg4_3)
 (try clear hcg4_4 hfg4_4)
 (try clear hcg8_0 hfg8_0)
 (try clear hcg8_1 hfg8_1)
 (try clear hcg8_2 hfg8_2)
 (try clear hcg8_3 hfg8_3)
 replace HO := Aside0.mk (Kd.S_set HO.out BKg4.out (by decide) 0 (.int .i64 p))
 replace BKg2 := Aside0.mk (blk_far BKg2.out (p := ⟨g4, 0, none⟩) (by show _ ≠ _; have := SZ1.out; have := SZ2.out; have := SZ3.out; have := SZ4.out; have := SZ5.out; omega) (.int .i64 p))
 replace BKg3 := Aside0.mk (blk_far BKg3.out (p := ⟨g4, 0, none⟩) (by show _ ≠ _; have := SZ1.out; have := SZ2.out; have := SZ3.out; have := SZ4.out; have := SZ5.out; omega) (.int .i64 p))
 replace BKg4 := Aside0.mk (blk_put BKg4.out 0 (.int .i64 p) rfl)
 replace BKg8 := Aside0.mk (blk_far BKg8.out (p := ⟨g4, 0, none⟩) (by show _ ≠ _; have := SZ1.out; have := SZ2.out; have := SZ3.out; have := SZ4.out; have := SZ5.out; omega) (.int .i64 p))
 replace HB := Aside0.mk (below_set HB.out (by have := SZ1.out; have := SZ2.out; have := SZ3.out; have := SZ4.out; have := SZ5.out; omega : w.heap.size ≤ g4) (j := 0) (v := .int .i64 p))
 replace HO := Aside0.mk (Kd.S_set HO.out BKg4.out (by decide) 1 (.int .i64 q))
 replace BKg2 := Aside0.mk (blk_far BKg2.out (p := ⟨g4, 1, none⟩) (by show _ ≠ _; have := SZ1.out; have := SZ2.out; have := SZ3.out; have := SZ4.out; have := SZ5.out; omega) (.int .i64 q))
 replace BKg3 := Aside0.mk (blk_far BKg3.out (p := ⟨g4, 1, none⟩) (by show _ ≠ _; have := SZ1.out; have := SZ2.out; have := SZ3.out; have := SZ4.out; have := SZ5.out; omega) (.int .i64 q))
 replace BKg4 := Aside0.mk (blk_put BKg4.out 1 (.int .i64 q) rfl)
 replace BKg8 := Aside0.mk (blk_far BKg8.out (p := ⟨g4, 1, none⟩) (by show _ ≠ _; have := SZ1.out; have := SZ2.out; have := SZ3.out; have := SZ4.out; have := SZ5.out; omega) (.int .i64 q))
 replace HB := Aside0.mk (below_set HB.out (by have := SZ1.out; have := SZ2.out; have := SZ3.out; have := SZ4.out; have := SZ5.out; omega : w.heap.size ≤ g4) (j := 1) (v := .int .i64 q))
 replace HO := Aside0.mk (Kd.S_set HO.out BKg4.out (by decide) 2 (.int .i64 u))
 replace BKg2 := Aside0.mk (blk_far BKg2.out (p := ⟨g4, 2, none⟩) (by show _ ≠ _; have := SZ1.out; have := SZ2.out; have := SZ3.out; have := SZ4.out; have := SZ5.out; omega) (.int .i64 u))
 replace BKg3 := Aside0.mk (blk_far BKg3.out (p := ⟨g4, 2, none⟩) (by show _ ≠ _; have := SZ1.out; have := SZ2.out; have := SZ3.out; have := SZ4.out; have := SZ5.out; omega) (.int .i64 u))
 replace BKg4 := Aside0.mk (blk_put BKg4.out 2 (.int .i64 u) rfl)
 replace BKg8 := Aside0.mk (blk_far BKg8.out (p := ⟨g4, 2, none⟩) (by show _ ≠ _; have := SZ1.out; have := SZ2.out; have := SZ3.out; have := SZ4.out; have := SZ5.out; omega) (.int .i64 u))
 replace HB := Aside0.mk (below_set HB.out (by have := SZ1.out; have := SZ2.out; have := SZ3.out; have := SZ4.out; have := SZ5.out; omega : w.heap.size ≤ g4) (j := 2) (v := .int .i64 u))
 replace HO := Aside0.mk (Kd.S_set HO.out BKg4.out (by decide) 3 (.int .i64 v))
 replace BKg2 := Aside0.mk (blk_far BKg2.out (p := ⟨g4, 3, none⟩) (by show _ ≠ _; have := SZ1.out; have := SZ2.out; have := SZ3.out; have := SZ4.out; have := SZ5.out; omega) (.int .i64 v))
 replace BKg3 := Aside0.mk (blk_far BKg3.out (p := ⟨g4, 3, none⟩) (by show _ ≠ _; have := SZ1.out; have := SZ2.out; have := SZ3.out; have := SZ4.out; have := SZ5.out; omega) (.int .i64 v))
 replace BKg4 := Aside0.mk (blk_put BKg4.out 3 (.int .i64 v) rfl)
 replace BKg8 := Aside0.mk (blk_far BKg8.out (p := ⟨g4, 3, none⟩) (by show _ ≠ _; have := SZ1.out; have := SZ2.out; have := SZ3.out; have := SZ4.out; have := SZ5.out; omega) (.int .i64 v))
 replace HB := Aside0.mk (below_set HB.out (by have := SZ1.out; have := SZ2.out; have := SZ3.out; have := SZ4.out; have := SZ5.out; omega : w.heap.size ≤ g4) (j := 3) (v := .int .i64 v))
 replace HO := Aside0.mk (Kd.S_set HO.out BKg4.out (by decide) 4 (.slice A9 s.length c9))
 replace BKg2 := Aside0.mk (blk_far BKg2.out (p := ⟨g4, 4, none⟩) (by show _ ≠ _; have := SZ1.out; have := SZ2.out; have := SZ3.out; have := SZ4.out; have := SZ5.out; omega) (.slice A9 s.length c9))
 replace BKg3 := Aside0.mk (blk_far BKg3.out (p := ⟨g4, 4, none⟩) (by show _ ≠ _; have := SZ1.out; have := SZ2.out; have := SZ3.out; have := SZ4.out; have := SZ5.out; omega) (.slice A9 s.length c9))
 replace BKg4 := Aside0.mk (blk_put BKg4.out 4 (.slice A9 s.length c9) rfl)
 replace BKg8 := Aside0.mk (blk_far BKg8.out (p := ⟨g4, 4, none⟩) (by show _ ≠ _; have := SZ1.out; have := SZ2.out; have := SZ3.out; have := SZ4.out; have := SZ5.out; omega) (.slice A9 s.length c9))
 replace HB := Aside0.mk (below_set HB.out (by have := SZ1.out; have := SZ2.out; have := SZ3.out; have := SZ4.out; have := SZ5.out; omega : w.heap.size ≤ g4) (j := 4) (v := .slice A9 s.length c9))
 have SZ6 := Aside0.mk (show w5.heap.size ≤ (((((w5.setCell ⟨g4, 0, none⟩ (.int .i64 p)).setCell ⟨g4, 1, none⟩ (.int .i64 q)).setCell ⟨g4, 2, none⟩ (.int .i64 u)).setCell ⟨g4, 3, none⟩ (.int .i64 v)).setCell ⟨g4, 4, none⟩ (.slice A9 s.length c9)).heap.size from by simp [World.setCell])
 generalize (((((w5.setCell ⟨g4, 0, none⟩ (.int .i64 p)).setCell ⟨g4, 1, none⟩ (.int .i64 q)).setCell ⟨g4, 2, none⟩ (.int .i64 u)).setCell ⟨g4, 3, none⟩ (.int .i64 v)).setCell ⟨g4, 4, none⟩ (.slice A9 s.length c9)) = w6 at HB HO BKg2 BKg3 BKg4 BKg8 SZ6 ⊢
 obtain ⟨hcg2_0, hcg2_1, hcg2_2, hcg2_3, hcg2_4, hfg2_0, hfg2_1, hfg2_2, hfg2_3, hfg2_4⟩ := cs5 BKg2.out; obtain ⟨hcg3_0, hcg3_1, hcg3_2, hcg3_3, hfg3_0, hfg3_1, hfg3_2, hfg3_3⟩ := cs4 BKg3.out; obtain ⟨hcg4_0, hcg4_1, hcg4_2, hcg4_3, hcg4_4, hfg4_0, hfg4_1, hfg4_2, hfg4_3, hfg4_4⟩ := cs5 BKg4.out; obtain ⟨hcg8_0, hcg8_1, hcg8_2, hcg8_3, hfg8_0, hfg8_1, hfg8_2, hfg8_3⟩ := cs4 BKg8.out
 refine bodyPost_ret (results_ct rfl _ _ g4 27 #[.int .i64 p, .int .i64 q, .int .i64 u, .int .i64 v, .slice A9 s.length c9] (0, 0) _ rfl (by first | exact BKg4.out | (refine sO ?_; exact BKg4.out)) hu27 rfl (by kernel_rfl)) rfl ?_
 exact ⟨_, rfl, HO.out, (by repeat (first | exact HB.out | apply below_alloc | apply pw_below_drewN | apply below_drew1))⟩
theorem image_Put.calls (k : Nat) (a0_0 : Int) (a0_1 : Int) (a0_2 : Int) (a0_3 : Int) (A0_4 : Option Addr) (c0_4 : Nat) (l0_4 : List (List Int)) (a1_0 : Int) (a1_1 : Int) (a1_2 : Int) (A1_3 : Option Addr) (c1_3 : Nat) (l1_3 : List Int) (r1 : Int) (r2 : Int) (r3 : Int) (r4 : Int) (r5 : List (List Int)) (r6 : Int) (w : World) (hr0_4 : Kd.C (Kd.slice 5 (Kd.int .u8)) w A0_4 l0_4.length l0_4) (hc0_4 : l0_4.length ≤ c0_4) (hr1_3 : Kd.C (Kd.int .u8) w A1_3 l1_3.length l1_3) (hc1_3 : l1_3.length ≤ c1_3) (h : image_Put.f k a0_0 a0_1 a0_2 a0_3 l0_4 a1_0 a1_1 a1_2 l1_3 = some (r1, r2, r3, r4, r5, r6)) :
  Calls Try.prog 22 #[.agg #[.int .i64 a0_0, .int .i64 a0_1, .int .i64 a0_2, .int .i64 a0_3, .slice A0_4 l0_4.length c0_4], .agg #[.int .i64 a1_0, .int .i64 a1_1, .int .i64 a1_2, .slice A1_3 l1_3.length c1_3]] w fun e w' => ∃ v4_ : Value, e = .returned (.tuple #[.agg #[.int .i64 r1, .int .i64 r2, .int .i64 r3, .int .i64 r4, v4_], .int .i64 r6]) ∧ Kd.S (Kd.slice 5 (Kd.int .u8)) 33 w' w.heap.size (fun _ => True) v4_ r5 ∧ Below w.heap.size w w' :=
 Put_walk k a0_0 a0_1 a0_2 a0_3 A0_4 c0_4 l0_4 ⟨a1_0, a1_1, a1_2, l1_3⟩ A1_3 c1_3 r1 r2 r3 r4 r5 r6 w hr0_4 hc0_4 hr1_3 hc1_3 h

def bytes_Equal.f (l0 : List Int) (l1 : List Int) : Option (Bool) := some ((strOfNums l0).toList == (strOfNums l1).toList)
set_option maxHeartbeats 8000000 in
set_option maxRecDepth 100000 in
theorem bytes_Equal.calls (A0 : Option Addr) (c0 : Nat) (l0 : List Int) (A1 : Option Addr) (c1 : Nat) (l1 : List Int) (r : Bool) (w : World) (hr0 : Kd.C (Kd.int .u8) w A0 l0.length l0) (hc0 : l0.length ≤ c0) (hr1 : Kd.C (Kd.int .u8) w A1 l1.length l1) (hc1 : l1.length ≤ c1) (h : bytes_Equal.f l0 l1 = some r) :
  Calls Try.prog 47 #[.slice A0 l0.length c0, .slice A1 l1.length c1] w fun e w' => e = .returned (.bool r) ∧ Drawn0 w w' := by
 have HR0 := Aside0.mk hr0
 have HC0 := Aside0.mk hc0
 clear hr0 hc0
 have HR1 := Aside0.mk hr1
 have HC1 := Aside0.mk hc1
 clear hr1 hc1
 have H : (some ((strOfNums l0).toList == (strOfNums l1).toList)) = some r := h
 clear h
 obtain rfl := Option.some.inj H
 have hcv3 := Kd.C_string (P := Try.prog) (A := A0) (c := c0) Try.underlying33 Try.underlying5 Try.underlying9 HR0.out
 have hcv4 := Kd.C_string (P := Try.prog) (A := A1) (c := c1) Try.underlying33 Try.underlying5 Try.underlying9 HR1.out
 go_enter Try.func47, Try.ntmps47
 go_wp2
 go_ret
 exact ⟨by first | rfl | (simp; done) | (simp [*]; done), by repeat (first | exact Drawn0.refl _ | apply Drawn0.step)⟩

def image_Diff.l0 : Nat → List (S35) → List (List Int) → Int → Int → Int → Int → Int → Int → List (List Int) → Option ((List (S35)) × Int)
 | 0, _, _, _, _, _, _, _, _, _ => none
 | k + 1, x8, x28, x29, x30, x122000, x122001, x122002, x122003, x122004 => if x30 < x29 then (if 0 ≤ x30 then (if x30 < (x28.length : Int) then (if x30 < (x122004.length : Int) then ((bytes_Equal.f (rd_L1 x122004 x30) (rd_L1 x28 x30)).bind fun t127 => (if t127 = true then (image_Diff.l0 k x8 x28 x29 (wrap64 (x30 + 1)) x122000 x122001 x122002 x122003 x122004) else (if ((rd_L1 x28 x30).length : Int) = 0 then (some (([] : List (S35)), 90)) else (if x122003 = 0 then (none) else ((image_taken.f (rd_L1 x28 x30)).bind fun t128 => (if x8.length < 2932031007402 then (image_Diff.l0 k (x8 ++ [(⟨wrap64 (Int.tdiv (wrap64 (Int.tdiv x30 2)) x122003), Int.tmod (wrap64 (Int.tdiv x30 2)) x122003, Go.bits .and .i64 x30 1, t128⟩ : S35)]) x28 x29 (wrap64 (x30 + 1)) x122000 x122001 x122002 x122003 x122004) else (none))))))) else (none)) else (none)) else (none)) else (some (x8, 0))
def image_Diff.f (k : Nat) (a0_0 : Int) (a0_1 : Int) (a0_2 : Int) (a0_3 : Int) (l0_4 : List (List Int)) (a1_0 : Int) (a1_1 : Int) (a1_2 : Int) (a1_3 : Int) (l1_4 : List (List Int)) : Option ((List (S35)) × Int) := (image_Check.f k a0_0 a0_1 a0_2 a0_3 l0_4).bind fun t123 => (if t123 = 0 then ((image_Check.f k a1_0 a1_1 a1_2 a1_3 l1_4).bind fun t124 => (if t124 = 0 then (if (!(a0_0 == a1_0) || (!(a0_1 == a1_1) || (!(a0_2 == a1_2) || (!(a0_3 == a1_3))))) = true then (some (([] : List (S35)), 90)) else (image_Diff.l0 k ([] : List (S35)) l1_4 (l1_4.length : Int) 0 a0_0 a0_1 a0_2 a0_3 l0_4)) else (some (([] : List (S35)), t124)))) else (some (([] : List (S35)), t123)))
def image_Diff.T14 : Bool × List (List Nat × List Nat) := (true, [([], []), ([], []), ([], []), ([2], [2]), ([3], [3]), ([1, 4], [1, 4]), ([], []), ([], []), ([7], [7]), ([8], [8]), ([6, 9], [6, 9]), ([], []), ([11], [11]), ([], []), ([13], [13]), ([5, 10, 12, 14], [5, 10, 12, 14]), ([15], [15]), ([0, 16, 14], [0, 16]), ([17, 17, 0, 1, 2, 3, 4, 5, 6, 7, 8, 9, 10, 11, 12, 13, 14, 15, 16, 17], [0, 17])])
def image_Diff.B14 : List Nat := [0, 0, 0, 4, 12, 30, 0, 0, 128, 384, 960, 0, 2048, 0, 8192, 32766, 65534, 131071, 262143]
theorem image_Diff.tab14 : rtab .any (opsOf Try.f14 14) = image_Diff.T14 := by kernel_rfl
theorem image_Diff.bits14 : waitsOk image_Diff.T14.2 image_Diff.B14 = true := by kernel_rfl
set_option maxHeartbeats 8000000 in
set_option maxRecDepth 100000 in
theorem image_Diff.calls (k : Nat) (a0_0 : Int) (a0_1 : Int) (a0_2 : Int) (a0_3 : Int) (A0_4 : Option Addr) (c0_4 : Nat) (l0_4 : List (List Int)) (a1_0 : Int) (a1_1 : Int) (a1_2 : Int) (a1_3 : Int) (A1_4 : Option Addr) (c1_4 : Nat) (l1_4 : List (List Int)) (r1 : List (S35)) (r2 : Int) (w : World) (hr0_4 : Kd.C (Kd.slice 5 (Kd.int .u8)) w A0_4 l0_4.length l0_4) (hc0_4 : l0_4.length ≤ c0_4) (hr1_4 : Kd.C (Kd.slice 5 (Kd.int .u8)) w A1_4 l1_4.length l1_4) (hc1_4 : l1_4.length ≤ c1_4) (h : image_Diff.f k a0_0 a0_1 a0_2 a0_3 l0_4 a1_0 a1_1 a1_2 a1_3 l1_4 = some (r1, r2)) :
  Calls Try.prog 14 #[.agg #[.int .i64 a0_0, .int .i64 a0_1, .int .i64 a0_2, .int .i64 a0_3, .slice A0_4 l0_4.length c0_4], .agg #[.int .i64 a1_0, .int .i64 a1_1, .int .i64 a1_2, .int .i64 a1_3, .slice A1_4 l1_4.length c1_4]] w fun e w' => ∃ v0_ : Value, e = .returned (.tuple #[v0_, .int .i64 r2]) ∧ Kd.S k35 35 w' w.heap.size (fun _ => True) v0_ r1 ∧ Below w.heap.size w w' := by
 have hu27 := Try.underlying27
 have hu24 := Try.underlying24
 have hu35 := Try.underlying35
 have HR0_4 := Aside0.mk hr0_4
 have HC0_4 := Aside0.mk hc0_4
 clear hr0_4 hc0_4
 have HR1_4 := Aside0.mk hr1_4
 have HC1_4 := Aside0.mk hc1_4
 clear hr1_4 hc1_4
 have HB := Aside0.mk (Below.refl w.heap.size w)
 have H : ((image_Check.f k a0_0 a0_1 a0_2 a0_3 l0_4).bind fun t123 => (if t123 = 0 then ((image_Check.f k a1_0 a1_1 a1_2 a1_3 l1_4).bind fun t124 => (if t124 = 0 then (if (!(a0_0 == a1_0) || (!(a0_1 == a1_1) || (!(a0_2 == a1_2) || (!(a0_3 == a1_3))))) = true then (some (([] : List (S35)), 90)) else (image_Diff.l0 k ([] : List (S35)) l1_4 (l1_4.length : Int) 0 a0_0 a0_1 a0_2 a0_3 l0_4)) else (some (([] : List (S35)), t124)))) else (some (([] : List (S35)), t123)))) = some (r1, r2) := h
 clear h
 replace H := Option.bind_eq_some_iff.mp H
 obtain ⟨t123, A30, H⟩ := H
 try dsimp only at H
 have A3 := Aside0.mk A30
 clear A30
 by_cases c4 : t123 = 0
 ·
  rw [if_pos c4] at H
  have c4b0 : (t123 == 0) = true := beq_iff_eq.mpr c4
  have c4b1 : (t123 != 0) = false := bne_eq_false_iff_eq.mpr c4
  clear c4
  replace H := Option.bind_eq_some_iff.mp H
  obtain ⟨t124, A50, H⟩ := H
  try dsimp only at H
  have A5 := Aside0.mk A50
  clear A50
  by_cases c6 : t124 = 0
  ·
   rw [if_pos c6] at H
   have c6b0 : (t124 == 0) = true := beq_iff_eq.mpr c6
   have c6b1 : (t124 != 0) = false := bne_eq_false_iff_eq.mpr c6
   clear c6
   by_cases c7 : (!(a0_0 == a1_0) || (!(a0_1 == a1_1) || (!(a0_2 == a1_2) || (!(a0_3 == a1_3))))) = true
   ·
    rw [if_pos c7] at H
    have c7b0 : (!(a0_0 == a1_0) || (!(a0_1 == a1_1) || (!(a0_2 == a1_2) || (!(a0_3 == a1_3))))) = true := c7
    clear c7
    simp only [Option.some.injEq, Prod.mk.injEq] at H
    obtain ⟨rfl, rfl⟩ := H
    go_enter Try.func14, Try.ntmps14
    go_wp2_with (first | ((with_reducible refine gate_dst (N := 2) rfl ?_); refine box_event rfl (N := 2) rfl (cs := #[.int .i64 a0_0, .int .i64 a0_1, .int .i64 a0_2, .int .i64 a0_3, .slice A0_4 l0_4.length c0_4]) (t := 27) (by go_simp; try rfl) ?_; intro gb121 hg w8 hbox hb; have BK121 := Aside0.mk (hbox); have GW121 := Aside0.mk ((by rw [hg]; exact (sZ HB) : w.heap.size ≤ gb121)); have GE121 := Aside0.mk ((by rw [hg]; exact (sZ HB) : w.heap.size ≤ gb121)); replace HB := kH HB hb; clear hb hbox hg) | ((with_reducible refine gate_dst (N := 3) rfl ?_); refine box_event rfl (N := 3) rfl (cs := #[.int .i64 a1_0, .int .i64 a1_1, .int .i64 a1_2, .int .i64 a1_3, .slice A1_4 l1_4.length c1_4]) (t := 27) (by go_simp; try rfl) ?_; intro gb122 hg w9 hbox hb; have BK122 := Aside0.mk (hbox); have GW122 := Aside0.mk ((by rw [hg]; exact (below_size (by repeat (first | exact sH HB.out | refine sN (w := w) ?_ | with_reducible refine sG (w := w) ?_ (by assumption)))) : w.heap.size ≤ gb122)); have GE122 := Aside0.mk ((by rw [hg]; exact (below_size (by repeat (first | exact sH HB.out | refine sN (w := w) ?_ | with_reducible refine sG (w := w) ?_ (by assumption)))) : w.heap.size ≤ gb122)); replace HB := Aside0.mk (below_step (by repeat (first | exact sH HB.out | refine sN (w := w) ?_ | with_reducible refine sG (w := w) ?_ (by assumption))) hb); have NB121_122 := Aside0.mk ((by rw [hg]; exact Nat.ne_of_lt (blk_lt (g := gb121) (o := .cells #[.int .i64 a0_0, .int .i64 a0_1, .int .i64 a0_2, .int .i64 a0_3, .slice A0_4 l0_4.length c0_4] 27 (0, 0)) (by first | exact BK121.out | (refine sO ?_; exact BK121.out))) : gb121 ≠ gb122)); have NB122_121 := Aside0.mk ((by rw [hg]; exact Nat.ne_of_gt (blk_lt (g := gb121) (o := .cells #[.int .i64 a0_0, .int .i64 a0_1, .int .i64 a0_2, .int .i64 a0_3, .slice A0_4 l0_4.length c0_4] 27 (0, 0)) (by first | exact BK121.out | (refine sO ?_; exact BK121.out))) : gb122 ≠ gb121)); replace BK121 := kB BK121 hb; clear hb hbox hg; have hnb10 := NB121_122.out; have hnc10 := NB122_121.out; obtain ⟨hcz11_0, hcz11_1, hcz11_2, hcz11_3, hcz11_4, hfz11_0, hfz11_1, hfz11_2, hfz11_3, hfz11_4⟩ := cs5 BK121.out) | ((with_reducible refine gate_callee (f := 17) rfl ?_); refine goesL_ (some 13) rfl rfl Try.func17 (by kernel_rfl) rfl #[.agg #[.int .i64 a0_0, .int .i64 a0_1, .int .i64 a0_2, .int .i64 a0_3, .slice A0_4 l0_4.length c0_4]] rfl (by (try simp only [sM]); first | done | rfl | (simp only [sT]; rfl)) ?_; (with_reducible refine (image_Check.calls k a0_0 a0_1 a0_2 a0_3 _ _ l0_4 t123 _ ?side1 ?side2 A3.out).mono ?_); (case side1 => exact sC (Kd.C_below HR0_4.out HB.out)); (case side2 => exact HC0_4.out); rintro e w12 ⟨rfl, hb⟩; refine ⟨_, rfl, ?_⟩; replace BK121 := kB BK121 hb; replace BK122 := kB BK122 hb; replace HB := Aside0.mk (below_step (by repeat (first | exact sH HB.out | refine sN (w := w) ?_ | with_reducible refine sG (w := w) ?_ (by assumption))) hb); (try clear hb); (try clear hb2); (try clear hk); (try clear hi); obtain ⟨hcz13_0, hcz13_1, hcz13_2, hcz13_3, hcz13_4, hfz13_0, hfz13_1, hfz13_2, hfz13_3, hfz13_4⟩ := cs5 BK122.out) | ((with_reducible refine gate_callee (f := 17) rfl ?_); refine goesL_ (some 18) rfl rfl Try.func17 (by kernel_rfl) rfl #[.agg #[.int .i64 a1_0, .int .i64 a1_1, .int .i64 a1_2, .int .i64 a1_3, .slice A1_4 l1_4.length c1_4]] rfl (by (try simp only [sM]); first | done | rfl | (simp only [sT]; rfl)) ?_; (with_reducible refine (image_Check.calls k a1_0 a1_1 a1_2 a1_3 _ _ l1_4 t124 _ ?side1 ?side2 A5.out).mono ?_); (case side1 => exact sC (Kd.C_below HR1_4.out HB.out)); (case side2 => exact HC1_4.out); rintro e w14 ⟨rfl, hb⟩; refine ⟨_, rfl, ?_⟩; replace BK121 := kB BK121 hb; replace BK122 := kB BK122 hb; replace HB := Aside0.mk (below_step (by repeat (first | exact sH HB.out | refine sN (w := w) ?_ | with_reducible refine sG (w := w) ?_ (by assumption))) hb); (try clear hb); (try clear hb2); (try clear hk); (try clear hi); obtain ⟨hcz15_0, hcz15_1, hcz15_2, hcz15_3, hcz15_4, hfz15_0, hfz15_1, hfz15_2, hfz15_3, hfz15_4⟩ := cs5 BK121.out; obtain ⟨hcz16_0, hcz16_1, hcz16_2, hcz16_3, hcz16_4, hfz16_0, hfz16_1, hfz16_2, hfz16_3, hfz16_4⟩ := cs5 BK122.out))
    go_ret2
    exact ⟨_, by first | rfl | (simp [errW_none, errW_some] <;> rfl) | (simp [*, errW_none, errW_some] <;> rfl), by first | exact Kd.S_nil _ _ _ _ _ | exact Kd.N_nil _ _ _ _ _ | exact Kd.V_nil _ _ _ _ _ | exact Kd.Q_nil _ _ _ _ _ | exact Kd.R_nil _ _ _ _ _, by repeat (first | exact sH HB.out | refine sN (w := w) ?_ | with_reducible refine sG (w := w) ?_ (by assumption))⟩
   ·
    rw [if_neg c7] at H
    have c7b0 : (!(a0_0 == a1_0) || (!(a0_1 == a1_1) || (!(a0_2 == a1_2) || (!(a0_3 == a1_3))))) = false := by simpa using c7
    clear c7
    have H' := Aside0.mk H
    clear H
    go_enter Try.func14, Try.ntmps14
    go_wp2_with (first | ((with_reducible refine gate_dst (N := 2) rfl ?_); refine box_event rfl (N := 2) rfl (cs := #[.int .i64 a0_0, .int .i64 a0_1, .int .i64 a0_2, .int .i64 a0_3, .slice A0_4 l0_4.length c0_4]) (t := 27) (by go_simp; try rfl) ?_; intro gb121 hg w17 hbox hb; have BK121 := Aside0.mk (hbox); have GW121 := Aside0.mk ((by rw [hg]; exact (sZ HB) : w.heap.size ≤ gb121)); have GE121 := Aside0.mk ((by rw [hg]; exact (sZ HB) : w.heap.size ≤ gb121)); replace HB := kH HB hb; clear hb hbox hg) | ((with_reducible refine gate_dst (N := 3) rfl ?_); refine box_event rfl (N := 3) rfl (cs := #[.int .i64 a1_0, .int .i64 a1_1, .int .i64 a1_2, .int .i64 a1_3, .slice A1_4 l1_4.length c1_4]) (t := 27) (by go_simp; try rfl) ?_; intro gb122 hg w18 hbox hb; have BK122 := Aside0.mk (hbox); have GW122 := Aside0.mk ((by rw [hg]; exact (below_size (by repeat (first | exact sH HB.out | refine sN (w := w) ?_ | with_reducible refine sG (w := w) ?_ (by assumption)))) : w.heap.size ≤ gb122)); have GE122 := Aside0.mk ((by rw [hg]; exact (below_size (by repeat (first | exact sH HB.out | refine sN (w := w) ?_ | with_reducible refine sG (w := w) ?_ (by assumption)))) : w.heap.size ≤ gb122)); replace HB := Aside0.mk (below_step (by repeat (first | exact sH HB.out | refine sN (w := w) ?_ | with_reducible refine sG (w := w) ?_ (by assumption))) hb); have NB121_122 := Aside0.mk ((by rw [hg]; exact Nat.ne_of_lt (blk_lt (g := gb121) (o := .cells #[.int .i64 a0_0, .int .i64 a0_1, .int .i64 a0_2, .int .i64 a0_3, .slice A0_4 l0_4.length c0_4] 27 (0, 0)) (by first | exact BK121.out | (refine sO ?_; exact BK121.out))) : gb121 ≠ gb122)); have NB122_121 := Aside0.mk ((by rw [hg]; exact Nat.ne_of_gt (blk_lt (g := gb121) (o := .cells #[.int .i64 a0_0, .int .i64 a0_1, .int .i64 a0_2, .int .i64 a0_3, .slice A0_4 l0_4.length c0_4] 27 (0, 0)) (by first | exact BK121.out | (refine sO ?_; exact BK121.out))) : gb122 ≠ gb121)); replace BK121 := kB BK121 hb; clear hb hbox hg; have hnb19 := NB121_122.out; have hnc19 := NB122_121.out; obtain ⟨hcz20_0, hcz20_1, hcz20_2, hcz20_3, hcz20_4, hfz20_0, hfz20_1, hfz20_2, hfz20_3, hfz20_4⟩ := cs5 BK121.out) | ((with_reducible refine gate_callee (f := 17) rfl ?_); refine goesL_ (some 13) rfl rfl Try.func17 (by kernel_rfl) rfl #[.agg #[.int .i64 a0_0, .int .i64 a0_1, .int .i64 a0_2, .int .i64 a0_3, .slice A0_4 l0_4.length c0_4]] rfl (by (try simp only [sM]); first | done | rfl | (simp only [sT]; rfl)) ?_; (with_reducible refine (image_Check.calls k a0_0 a0_1 a0_2 a0_3 _ _ l0_4 t123 _ ?side1 ?side2 A3.out).mono ?_); (case side1 => exact sC (Kd.C_below HR0_4.out HB.out)); (case side2 => exact HC0_4.out); rintro e w21 ⟨rfl, hb⟩; refine ⟨_, rfl, ?_⟩; replace BK121 := kB BK121 hb; replace BK122 := kB BK122 hb; replace HB := Aside0.mk (below_step (by repeat (first | exact sH HB.out | refine sN (w := w) ?_ | with_reducible refine sG (w := w) ?_ (by assumption))) hb); (try clear hb); (try clear hb2); (try clear hk); (try clear hi); obtain ⟨hcz22_0, hcz22_1, hcz22_2, hcz22_3, hcz22_4, hfz22_0, hfz22_1, hfz22_2, hfz22_3, hfz22_4⟩ := cs5 BK122.out) | ((with_reducible refine gate_callee (f := 17) rfl ?_); refine goesL_ (some 18) rfl rfl Try.func17 (by kernel_rfl) rfl #[.agg #[.int .i64 a1_0, .int .i64 a1_1, .int .i64 a1_2, .int .i64 a1_3, .slice A1_4 l1_4.length c1_4]] rfl (by (try simp only [sM]); first | done | rfl | (simp only [sT]; rfl)) ?_; (with_reducible refine (image_Check.calls k a1_0 a1_1 a1_2 a1_3 _ _ l1_4 t124 _ ?side1 ?side2 A5.out).mono ?_); (case side1 => exact sC (Kd.C_below HR1_4.out HB.out)); (case side2 => exact HC1_4.out); rintro e w23 ⟨rfl, hb⟩; refine ⟨_, rfl, ?_⟩; replace BK121 := kB BK121 hb; replace BK122 := kB BK122 hb; replace HB := Aside0.mk (below_step (by repeat (first | exact sH HB.out | refine sN (w := w) ?_ | with_reducible refine sG (w := w) ?_ (by assumption))) hb); (try clear hb); (try clear hb2); (try clear hk); (try clear hi); obtain ⟨hcz24_0, hcz24_1, hcz24_2, hcz24_3, hcz24_4, hfz24_0, hfz24_1, hfz24_2, hfz24_3, hfz24_4⟩ := cs5 BK121.out; obtain ⟨hcz25_0, hcz25_1, hcz25_2, hcz25_3, hcz25_4, hfz25_0, hfz25_1, hfz25_2, hfz25_3, hfz25_4⟩ := cs5 BK122.out))
    go_loopg [8, 30] k (fun kq v8 v30 w' => ∃ (x8_1 : List (S35)) (x30_1 : Int), v30 = .int .i64 x30_1 ∧ Aside0 (image_Diff.l0 kq x8_1 l1_4 (l1_4.length : Int) x30_1 a0_0 a0_1 a0_2 a0_3 l0_4 = some (r1, r2)) ∧ Aside0 (kq ≤ k) ∧ Aside0 (Kd.S k35 35 w' w.heap.size (fun _ => True) v8 x8_1) ∧ Aside0 (w'.heap[gb121]? = some (.cells #[.int .i64 a0_0, .int .i64 a0_1, .int .i64 a0_2, .int .i64 a0_3, (.slice A0_4 l0_4.length c0_4)] 27 (0, 0))) ∧ Aside0 (w'.heap[gb122]? = some (.cells #[.int .i64 a1_0, .int .i64 a1_1, .int .i64 a1_2, .int .i64 a1_3, (.slice A1_4 l1_4.length c1_4)] 27 (0, 0))) ∧ Aside0 (Below w.heap.size w w'))
    case atStart => exact ⟨(([] : List (S35))), (0), (by first | rfl | (simp; done) | (simp [*]; done)), H', ⟨Nat.le_refl _⟩, ⟨by first | exact Kd.S_nil _ _ _ _ _ | exact Kd.N_nil _ _ _ _ _ | exact Kd.V_nil _ _ _ _ _ | exact Kd.Q_nil _ _ _ _ _ | exact Kd.R_nil _ _ _ _ _⟩, ⟨by (try refine sO ?_); exact BK121.out⟩, ⟨by (try refine sO ?_); exact BK122.out⟩, ⟨by repeat (first | exact sH HB.out | refine sN (w := w) ?_ | with_reducible refine sG (w := w) ?_ (by assumption))⟩⟩
    case round =>
     clear H'
     try clear c1
     try clear p2
     try clear c4
     try clear c4b0
     try clear c4b1
     try clear c6
     try clear c6b0
     try clear c6b1
     try clear c7
     try clear c7b0
     try clear c10
     try clear c14
     try clear c17
     try clear c19
     try clear hcz11_0
     try clear hcz11_1
     try clear hcz11_2
     try clear hcz11_3
     try clear hcz11_4
     try clear hcz13_0
     try clear hcz13_1
     try clear hcz13_2
     try clear hcz13_3
     try clear hcz13_4
     try clear hcz15_0
     try clear hcz15_1
     try clear hcz15_2
     try clear hcz15_3
     try clear hcz15_4
     try clear hcz16_0
     try clear hcz16_1
     try clear hcz16_2
     try clear hcz16_3
     try clear hcz16_4
     try clear hcz20_0
     try clear hcz20_1
     try clear hcz20_2
     try clear hcz20_3
     try clear hcz20_4
     try clear hcz22_0
     try clear hcz22_1
     try clear hcz22_2
     try clear hcz22_3
     try clear hcz22_4
     try clear hcz24_0
     try clear hcz24_1
     try clear hcz24_2
     try clear hcz24_3
     try clear hcz24_4
     try clear hcz25_0
     try clear hcz25_1
     try clear hcz25_2
     try clear hcz25_3
     try clear hcz25_4
     try clear hfz11_0
     try clear hfz11_1
     try clear hfz11_2
     try clear hfz11_3
     try clear hfz11_4
     try clear hfz13_0
     try clear hfz13_1
     try clear hfz13_2
     try clear hfz13_3
     try clear hfz13_4
     try clear hfz15_0
     try clear hfz15_1
     try clear hfz15_2
     try clear hfz15_3
     try clear hfz15_4
     try clear hfz16_0
     try clear hfz16_1
     try clear hfz16_2
     try clear hfz16_3
     try clear hfz16_4
     try clear hfz20_0
     try clear hfz20_1
     try clear hfz20_2
     try clear hfz20_3
     try clear hfz20_4
     try clear hfz22_0
     try clear hfz22_1
     try clear hfz22_2
     try clear hfz22_3
     try clear hfz22_4
     try clear hfz24_0
     try clear hfz24_1
     try clear hfz24_2
     try clear hfz24_3
     try clear hfz24_4
     try clear hfz25_0
     try clear hfz25_1
     try clear hfz25_2
     try clear hfz25_3
     try clear hfz25_4
     obtain ⟨x8_1, x30_1, rfl, HA, HK1, HO_8, BK121, BK122, HB⟩ := hrel
     cases gk with
     | zero => exact absurd HA.out (by simp [image_Diff.l0])
     | succ k1 =>
      have H := HA.out
      clear HA
      simp only [image_Diff.l0] at H
      by_cases c26 : x30_1 < (l1_4.length : Int)
      ·
       rw [if_pos c26] at H
       have c26b0 : decide (x30_1 < (l1_4.length : Int)) = true := decide_eq_true c26
       clear c26
       by_cases c27 : 0 ≤ x30_1
       ·
        rw [if_pos c27] at H
        have c27b0 : decide (0 ≤ x30_1) = true := decide_eq_true c27
        clear c27
        by_cases c28 : x30_1 < (l1_4.length : Int)
        ·
         rw [if_pos c28] at H
         have c28b0 : decide (x30_1 < (l1_4.length : Int)) = true := decide_eq_true c28
         clear c28
         by_cases c29 : x30_1 < (l0_4.length : Int)
         ·
          rw [if_pos c29] at H
          have c29b0 : decide (x30_1 < (l0_4.length : Int)) = true := decide_eq_true c29
          clear c29
          replace H := Option.bind_eq_some_iff.mp H
          obtain ⟨t127, A300, H⟩ := H
          try dsimp only at H
          have A30 := Aside0.mk A300
          clear A300
          by_cases c31 : t127 = true
          ·
           subst c31
           have H1 : (image_Diff.l0 k1 x8_1 l1_4 (l1_4.length : Int) (wrap64 (x30_1 + 1)) a0_0 a0_1 a0_2 a0_3 l0_4) = some (r1, r2) := by rw [if_pos rfl] at H; exact H
           clear H
           have H := H1
           clear H1
           have H' := Aside0.mk H
           clear H
           have p125 : 0 ≤ (x30_1 : Int) := of_decide_eq_true (by first | (with_reducible assumption) | assumption)
           have q125 : x30_1 < (l1_4.length : Int) := of_decide_eq_true (by first | (with_reducible assumption) | assumption)
           obtain ⟨ad125, A125_0, c125_0, e125, hx125_0, hl125_0, hi125_0⟩ := at_L1 HR1_4.out x30_1 p125 q125
           cases e125
           replace hx125_0 := (HB.out.cell (World.block_lt_of_cell? w _ hx125_0)).trans hx125_0
           have HR125_0 := Aside0.mk hi125_0
           have HC125_0 := Aside0.mk hl125_0
           clear hi125_0 hl125_0
           replace p125 := eq_true p125
           replace q125 := eq_true q125
           have hnb32 := NB121_122.out
           have hnc32 := NB122_121.out
           obtain ⟨hcz33_0, hcz33_1, hcz33_2, hcz33_3, hcz33_4, hfz33_0, hfz33_1, hfz33_2, hfz33_3, hfz33_4⟩ := cs5 BK121.out
           have p126 : 0 ≤ (x30_1 : Int) := of_decide_eq_true (by first | (with_reducible assumption) | assumption)
           have q126 : x30_1 < (l0_4.length : Int) := of_decide_eq_true (by first | (with_reducible assumption) | assumption)
           obtain ⟨ad126, A126_0, c126_0, e126, hx126_0, hl126_0, hi126_0⟩ := at_L1 HR0_4.out x30_1 p126 q126
           cases e126
           replace hx126_0 := (HB.out.cell (World.block_lt_of_cell? w _ hx126_0)).trans hx126_0
           have HR126_0 := Aside0.mk hi126_0
           have HC126_0 := Aside0.mk hl126_0
           clear hi126_0 hl126_0
           replace p126 := eq_true p126
           replace q126 := eq_true q126
           go_wp2_with (first | ((with_reducible refine gate_callee (f := 47) rfl ?_); refine goesL_ (some 62) rfl rfl Try.func47 (by kernel_rfl) rfl #[.slice A126_0 (rd_L1 l0_4 x30_1).length c126_0, .slice A125_0 (rd_L1 l1_4 x30_1).length c125_0] rfl (by (try simp only [sM]); first | done | rfl | (simp only [sT]; rfl)) ?_; (with_reducible refine (bytes_Equal.calls _ _ (rd_L1 l0_4 x30_1) _ _ (rd_L1 l1_4 x30_1) true _ ?side1 ?side2 ?side3 ?side4 A30.out).mono ?_); (case side1 => exact sC (Kd.C_below HR126_0.out HB.out)); (case side2 => exact HC126_0.out); (case side3 => exact sC (Kd.C_below HR125_0.out HB.out)); (case side4 => exact HC125_0.out); rintro e w' ⟨rfl, ⟨nd, rfl⟩⟩; refine ⟨_, rfl, ?_⟩))
           go_roundg k1
           case measure => have := HK1.out; omega
           case rel => exact ⟨(x8_1), (wrap64 (x30_1 + 1)), (by first | rfl | (simp; done) | (simp [*]; done)), H', ⟨by have := HK1.out; omega⟩, ⟨by (with_reducible repeat (first | apply Kd.S_alloc | apply Kd.S_drewN | apply Kd.S_drew)); exact HO_8.out⟩, ⟨by (try refine sO ?_); exact BK121.out⟩, ⟨by (try refine sO ?_); exact BK122.out⟩, ⟨by repeat (first | exact sH HB.out | refine sN (w := w) ?_ | with_reducible refine sG (w := w) ?_ (by assumption))⟩⟩
          ·
           replace c31 := Bool.eq_false_iff.mpr c31
           subst c31
           have H1 : (if ((rd_L1 l1_4 x30_1).length : Int) = 0 then (some (([] : List (S35)), 90)) else (if a0_3 = 0 then (none) else ((image_taken.f (rd_L1 l1_4 x30_1)).bind fun t128 => (if x8_1.length < 2932031007402 then (image_Diff.l0 k1 (x8_1 ++ [(⟨wrap64 (Int.tdiv (wrap64 (Int.tdiv x30_1 2)) a0_3), Int.tmod (wrap64 (Int.tdiv x30_1 2)) a0_3, Go.bits .and .i64 x30_1 1, t128⟩ : S35)]) l1_4 (l1_4.length : Int) (wrap64 (x30_1 + 1)) a0_0 a0_1 a0_2 a0_3 l0_4) else (none))))) = some (r1, r2) := by rw [if_neg (show ¬ (false = true) by decide)] at H; exact H
           clear H
           have H := H1
           clear H1
           by_cases c34 : ((rd_L1 l1_4 x30_1).length : Int) = 0
           ·
            rw [if_pos c34] at H
            have c34b0 : (((rd_L1 l1_4 x30_1).length : Int) == 0) = true := beq_iff_eq.mpr c34
            have c34b1 : (((rd_L1 l1_4 x30_1).length : Int) != 0) = false := bne_eq_false_iff_eq.mpr c34
            clear c34
            simp only [Option.some.injEq, Prod.mk.injEq] at H
            obtain ⟨rfl, rfl⟩ := H
            have p125 : 0 ≤ (x30_1 : Int) := of_decide_eq_true (by first | (with_reducible assumption) | assumption)
            have q125 : x30_1 < (l1_4.length : Int) := of_decide_eq_true (by first | (with_reducible assumption) | assumption)
            obtain ⟨ad125, A125_0, c125_0, e125, hx125_0, hl125_0, hi125_0⟩ := at_L1 HR1_4.out x30_1 p125 q125
            cases e125
            replace hx125_0 := (HB.out.cell (World.block_lt_of_cell? w _ hx125_0)).trans hx125_0
            have HR125_0 := Aside0.mk hi125_0
            have HC125_0 := Aside0.mk hl125_0
            clear hi125_0 hl125_0
            replace p125 := eq_true p125
            replace q125 := eq_true q125
            have hnb35 := NB121_122.out
            have hnc35 := NB122_121.out
            obtain ⟨hcz36_0, hcz36_1, hcz36_2, hcz36_3, hcz36_4, hfz36_0, hfz36_1, hfz36_2, hfz36_3, hfz36_4⟩ := cs5 BK121.out
            have p126 : 0 ≤ (x30_1 : Int) := of_decide_eq_true (by first | (with_reducible assumption) | assumption)
            have q126 : x30_1 < (l0_4.length : Int) := of_decide_eq_true (by first | (with_reducible assumption) | assumption)
            obtain ⟨ad126, A126_0, c126_0, e126, hx126_0, hl126_0, hi126_0⟩ := at_L1 HR0_4.out x30_1 p126 q126
            cases e126
            replace hx126_0 := (HB.out.cell (World.block_lt_of_cell? w _ hx126_0)).trans hx126_0
            have HR126_0 := Aside0.mk hi126_0
            have HC126_0 := Aside0.mk hl126_0
            clear hi126_0 hl126_0
            replace p126 := eq_true p126
            replace q126 := eq_true q126
            go_wp2_with (first | ((with_reducible refine gate_callee (f := 47) rfl ?_); refine goesL_ (some 62) rfl rfl Try.func47 (by kernel_rfl) rfl #[.slice A126_0 (rd_L1 l0_4 x30_1).length c126_0, .slice A125_0 (rd_L1 l1_4 x30_1).length c125_0] rfl (by (try simp only [sM]); first | done | rfl | (simp only [sT]; rfl)) ?_; (with_reducible refine (bytes_Equal.calls _ _ (rd_L1 l0_4 x30_1) _ _ (rd_L1 l1_4 x30_1) false _ ?side1 ?side2 ?side3 ?side4 A30.out).mono ?_); (case side1 => exact sC (Kd.C_below HR126_0.out HB.out)); (case side2 => exact HC126_0.out); (case side3 => exact sC (Kd.C_below HR125_0.out HB.out)); (case side4 => exact HC125_0.out); rintro e w' ⟨rfl, ⟨nd, rfl⟩⟩; refine ⟨_, rfl, ?_⟩))
            go_ret2
            exact ⟨_, by first | rfl | (simp [errW_none, errW_some] <;> rfl) | (simp [*, errW_none, errW_some] <;> rfl), by first | exact Kd.S_nil _ _ _ _ _ | exact Kd.N_nil _ _ _ _ _ | exact Kd.V_nil _ _ _ _ _ | exact Kd.Q_nil _ _ _ _ _ | exact Kd.R_nil _ _ _ _ _, by repeat (first | exact sH HB.out | refine sN (w := w) ?_ | with_reducible refine sG (w := w) ?_ (by assumption))⟩
           ·
            rw [if_neg c34] at H
            have c34b0 : (((rd_L1 l1_4 x30_1).length : Int) == 0) = false := beq_eq_false_iff_ne.mpr c34
            have c34b1 : (((rd_L1 l1_4 x30_1).length : Int) != 0) = true := bne_iff_ne.mpr c34
            have c34b2 : ¬ ((rd_L1 l1_4 x30_1) = []) := fun h_ => c34 (by rw [h_]; rfl)
            by_cases c37 : a0_3 = 0
            ·
             rw [if_pos c37] at H
             exact absurd H (by simp)
            ·
             rw [if_neg c37] at H
             have c37b0 : (a0_3 == 0) = false := beq_eq_false_iff_ne.mpr c37
             have c37b1 : (a0_3 != 0) = true := bne_iff_ne.mpr c37
             replace H := Option.bind_eq_some_iff.mp H
             obtain ⟨t128, A380, H⟩ := H
             try dsimp only at H
             have A38 := Aside0.mk A380
             clear A380
             by_cases c39 : x8_1.length < 2932031007402
             ·
              rw [if_pos c39] at H
              have LMc39 := Aside0.mk c39
              clear c39
              obtain ⟨y131, hy131⟩ : ∃ y_ : List (S35), y_ = (x8_1 ++ [(⟨wrap64 (Int.tdiv (wrap64 (Int.tdiv x30_1 2)) a0_3), Int.tmod (wrap64 (Int.tdiv x30_1 2)) a0_3, Go.bits .and .i64 x30_1 1, t128⟩ : S35)]) := ⟨_, rfl⟩
              replace H : (image_Diff.l0 k1 y131 l1_4 (l1_4.length : Int) (wrap64 (x30_1 + 1)) a0_0 a0_1 a0_2 a0_3 l0_4) = some (r1, r2) := by first | (rw [hy131]; with_reducible exact H) | (have H2_ := (Option.bind_some _ _).symm.trans H; rw [hy131]; with_reducible exact H2_) | (have H2_ := (Option.bind_some _ _).symm.trans H; with_reducible exact H2_) | with_reducible exact H | (rw [hy131]; exact H) | exact H
              have Ny131 := Aside0.mk hy131
              clear hy131
              have H' := Aside0.mk H
              clear H
              have p125 : 0 ≤ (x30_1 : Int) := of_decide_eq_true (by first | (with_reducible assumption) | assumption)
              have q125 : x30_1 < (l1_4.length : Int) := of_decide_eq_true (by first | (with_reducible assumption) | assumption)
              obtain ⟨ad125, A125_0, c125_0, e125, hx125_0, hl125_0, hi125_0⟩ := at_L1 HR1_4.out x30_1 p125 q125
              cases e125
              replace hx125_0 := (HB.out.cell (World.block_lt_of_cell? w _ hx125_0)).trans hx125_0
              have HR125_0 := Aside0.mk hi125_0
              have HC125_0 := Aside0.mk hl125_0
              clear hi125_0 hl125_0
              replace p125 := eq_true p125
              replace q125 := eq_true q125
              have hnb40 := NB121_122.out
              have hnc40 := NB122_121.out
              obtain ⟨hcz41_0, hcz41_1, hcz41_2, hcz41_3, hcz41_4, hfz41_0, hfz41_1, hfz41_2, hfz41_3, hfz41_4⟩ := cs5 BK121.out
              have p126 : 0 ≤ (x30_1 : Int) := of_decide_eq_true (by first | (with_reducible assumption) | assumption)
              have q126 : x30_1 < (l0_4.length : Int) := of_decide_eq_true (by first | (with_reducible assumption) | assumption)
              obtain ⟨ad126, A126_0, c126_0, e126, hx126_0, hl126_0, hi126_0⟩ := at_L1 HR0_4.out x30_1 p126 q126
              cases e126
              replace hx126_0 := (HB.out.cell (World.block_lt_of_cell? w _ hx126_0)).trans hx126_0
              have HR126_0 := Aside0.mk hi126_0
              have HC126_0 := Aside0.mk hl126_0
              clear hi126_0 hl126_0
              replace p126 := eq_true p126
              replace q126 := eq_true q126
              try go_wp2_with (first | ((with_reducible refine gate_callee (f := 47) rfl ?_); refine goesL_ (some 62) rfl rfl Try.func47 (by kernel_rfl) rfl #[.slice A126_0 (rd_L1 l0_4 x30_1).length c126_0, .slice A125_0 (rd_L1 l1_4 x30_1).length c125_0] rfl (by (try simp only [sM]); first | done | rfl | (simp only [sT]; rfl)) ?_; (with_reducible refine (bytes_Equal.calls _ _ (rd_L1 l0_4 x30_1) _ _ (rd_L1 l1_4 x30_1) false _ ?side1 ?side2 ?side3 ?side4 A30.out).mono ?_); (case side1 => exact sC (Kd.C_below HR126_0.out HB.out)); (case side2 => exact HC126_0.out); (case side3 => exact sC (Kd.C_below HR125_0.out HB.out)); (case side4 => exact HC125_0.out); rintro e w' ⟨rfl, ⟨nd, rfl⟩⟩; refine ⟨_, rfl, ?_⟩))
              (try (rw [drewN_self wr]; generalize hq_ : World.drewN wr _ = wr; have n0_ : Aside0 (Kd.S k35 35 wr w.heap.size (fun _ => True) u8 x8_1) := ⟨by rw [← hq_]; exact (sS HO_8.out)⟩; have n1_ : Aside0 (wr.heap[gb121]? = some (.cells #[.int .i64 a0_0, .int .i64 a0_1, .int .i64 a0_2, .int .i64 a0_3, .slice (some ad126) l0_4.length c0_4] 27 (0, 0))) := ⟨by rw [← hq_]; exact (by first | exact BK121.out | (refine sO ?_; exact BK121.out))⟩; have n2_ : Aside0 (wr.heap[gb122]? = some (.cells #[.int .i64 a1_0, .int .i64 a1_1, .int .i64 a1_2, .int .i64 a1_3, .slice (some ad125) l1_4.length c1_4] 27 (0, 0))) := ⟨by rw [← hq_]; exact (by first | exact BK122.out | (refine sO ?_; exact BK122.out))⟩; have n3_ : Aside0 (Below w.heap.size w wr) := ⟨by rw [← hq_]; exact (by repeat (first | exact sH HB.out | refine sN (w := w) ?_ | with_reducible refine sG (w := w) ?_ (by assumption)))⟩; clear HO_8 BK121 BK122 HB hq_; have HO_8 := n0_; have BK121 := n1_; have BK122 := n2_; have HB := n3_; clear n0_ n1_ n2_ n3_))
              replace HO_8 := Aside0.mk (Kd.S_drew HO_8.out); replace BK121 := Aside0.mk (blk_drew BK121.out); replace BK122 := Aside0.mk (blk_drew BK122.out); replace HB := Aside0.mk (below_drew1 HB.out)
              refine start_ (n := 19) (S := fun w' => w'.cell? ⟨gb121, 0, none⟩ = some (.int .i64 a0_0) ∧ w'.cell? ⟨gb121, 1, none⟩ = some (.int .i64 a0_1) ∧ w'.cell? ⟨gb121, 2, none⟩ = some (.int .i64 a0_2) ∧ w'.cell? ⟨gb121, 3, none⟩ = some (.int .i64 a0_3) ∧ w'.cell? ⟨gb121, 4, none⟩ = some (.slice (some ad126) l0_4.length c0_4)) (ds := []) #[O,O,O,O,O,O,O,O,O,O,O,O,O,O,O,O,O,O,O] (by kernel_rfl) rfl rfl ⟨(blk_cell BK121.out 0).trans rfl, (blk_cell BK121.out 1).trans rfl, (blk_cell BK121.out 2).trans rfl, (blk_cell BK121.out 3).trans rfl, (blk_cell BK121.out 4).trans rfl⟩ (fun hHeld => ?_); refine with_tabW image_Diff.tab14 image_Diff.bits14 (fun HT_ HW_ => ?_)
              generalize wr.drew = w42 at HO_8 BK121 BK122 HB hHeld ⊢
              refine pu (i := 0) (N := some 37) (v := ?_) (a' := ?_) #[X,O,O,O,O,O,O,O,O,O,O,O,O,O,O,O,O,O,O] rfl rfl HT_ (by kernel_rfl) (fun _ _ _ h => h) ⟨by rfl, ?_⟩ ?_ ?_
              rotate_left; (intro w'; go_simp; with_reducible rfl); rotate_left; (simp only [sP]; rfl)
              refine pu (i := 1) (N := some 38) (v := ?_) (a' := ?_) #[X,X,O,O,O,O,O,O,O,O,O,O,O,O,O,O,O,O,O] rfl rfl HT_ (by kernel_rfl) (fun _ _ _ h => h) ⟨by rfl, ?_⟩ ?_ ?_
              rotate_left; (intro w'; go_simp; with_reducible rfl); rotate_left; (simp only [sP]; rfl)
              refine pu (i := 2) (N := some 39) (v := ?_) (a' := ?_) #[X,X,X,O,O,O,O,O,O,O,O,O,O,O,O,O,O,O,O] rfl rfl HT_ (by kernel_rfl) (fun _ _ _ h => h) ⟨by rfl, ?_⟩ ?_ ?_
              rotate_left; (intro w'; go_simp; with_reducible rfl); rotate_left; (simp only [sP]; rfl)
              refine pu (i := 3) (N := some 40) (v := ?_) (a' := ?_) #[X,X,X,X,O,O,O,O,O,O,O,O,O,O,O,O,O,O,O] rfl rfl HT_ (by kernel_rfl) (fun _ _ _ h => h) ⟨by rfl, ?_⟩ ?_ ?_
              rotate_left; (intro w'; go_simp; with_reducible rfl); rotate_left; (simp only [sP]; rfl)
              refine pu (i := 6) (N := some 43) (v := ?_) (a' := ?_) #[X,X,X,X,O,O,X,O,O,O,O,O,O,O,O,O,O,O,O] rfl rfl HT_ (by kernel_rfl) (fun _ _ _ h => h) ⟨by rfl, ?_⟩ ?_ ?_
              rotate_left; (intro w'; go_simp; with_reducible rfl); rotate_left; (simp only [sP]; rfl)
              refine pu (i := 7) (N := some 44) (v := ?_) (a' := ?_) #[X,X,X,X,O,O,X,X,O,O,O,O,O,O,O,O,O,O,O] rfl rfl HT_ (by kernel_rfl) (fun _ _ _ h => h) ⟨by rfl, ?_⟩ ?_ ?_
              rotate_left; (intro w'; go_simp; with_reducible rfl); rotate_left; (simp only [sP]; rfl)
              refine pu (i := 8) (N := some 45) (v := ?_) (a' := ?_) #[X,X,X,X,O,O,X,X,X,O,O,O,O,O,O,O,O,O,O] rfl rfl HT_ (by kernel_rfl) (fun _ _ _ h => h) ⟨by rfl, ?_⟩ ?_ ?_
              rotate_left; (intro w'; go_simp; with_reducible rfl); rotate_left; (simp only [sP]; rfl)
              refine pu (i := 11) (N := some 48) (v := ?_) (a' := ?_) #[X,X,X,X,O,O,X,X,X,O,O,X,O,O,O,O,O,O,O] rfl rfl HT_ (by kernel_rfl) (fun _ _ _ h => h) ⟨by rfl, ?_⟩ ?_ ?_
              rotate_left; (intro w'; go_simp; with_reducible rfl); rotate_left; (simp only [sP]; rfl)
              refine pu (i := 12) (N := some 49) (v := ?_) (a' := ?_) #[X,X,X,X,O,O,X,X,X,O,O,X,X,O,O,O,O,O,O] rfl rfl HT_ (by kernel_rfl) (fun _ _ _ h => h) ⟨by rfl, ?_⟩ ?_ ?_
              rotate_left; (intro w'; go_simp; with_reducible rfl); rotate_left; (simp only [sP]; rfl)
              refine pu (i := 13) (N := some 50) (v := ?_) (a' := ?_) #[X,X,X,X,O,O,X,X,X,O,O,X,X,X,O,O,O,O,O] rfl rfl HT_ (by kernel_rfl) (fun _ _ _ h => h) ⟨by rfl, ?_⟩ ?_ ?_
              rotate_left; (intro w'; go_simp; with_reducible rfl); rotate_left; (simp only [sP]; rfl)
              refine tu (i := 4) (N := some 41) (v := ?_) (a' := ?_) #[X,X,X,X,X,O,X,X,X,O,O,X,X,X,O,O,O,O,O] rfl rfl HT_ HW_ (by kernel_rfl) (fun _ _ _ h => h) ⟨by rfl, ?_⟩ hHeld ?_ ?_
              rotate_left; (rintro w' ⟨s0, s1, s2, s3, s4⟩; go_simp; with_reducible rfl); rotate_left; (simp only [sP]; rfl)
              refine pu (i := 5) (N := some 42) (v := ?_) (a' := ?_) #[X,X,X,X,X,X,X,X,X,O,O,X,X,X,O,O,O,O,O] rfl rfl HT_ (by kernel_rfl) (fun _ _ _ h => h) ⟨by rfl, ?_⟩ ?_ ?_
              rotate_left; (intro w'; go_simp; with_reducible rfl); rotate_left; (simp only [sP]; rfl)
              refine tu (i := 9) (N := some 46) (v := ?_) (a' := ?_) #[X,X,X,X,X,X,X,X,X,X,O,X,X,X,O,O,O,O,O] rfl rfl HT_ HW_ (by kernel_rfl) (fun _ _ _ h => h) ⟨by rfl, ?_⟩ hHeld ?_ ?_
              rotate_left; (rintro w' ⟨s0, s1, s2, s3, s4⟩; go_simp; with_reducible rfl); rotate_left; (simp only [sP]; rfl)
              refine pu (i := 10) (N := some 47) (v := ?_) (a' := ?_) #[X,X,X,X,X,X,X,X,X,X,X,X,X,X,O,O,O,O,O] rfl rfl HT_ (by kernel_rfl) (fun _ _ _ h => h) ⟨by rfl, ?_⟩ ?_ ?_
              rotate_left; (intro w'; go_simp; with_reducible rfl); rotate_left; (simp only [sP]; rfl)
              refine one_ (i := 14) (N := some 51) #[X,X,X,X,X,X,X,X,X,X,X,X,X,X,X,O,O,O,O] rfl rfl (one_of HT_.out (by kernel_rfl)) (by decide) (fun K hK => ?_)
              refine goes_ Try.func46 (by kernel_rfl) rfl #[.slice A125_0 (rd_L1 l1_4 x30_1).length c125_0] (by rfl) rfl rfl (by (try simp only [sM]); first | done | rfl | (simp only [sT]; rfl)) ?_
              with_reducible refine (image_taken.calls _ _ (rd_L1 l1_4 x30_1) t128 _ ?side1 ?side2 A38.out).mono ?_
              (case side1 => exact sC (Kd.C_below HR125_0.out HB.out))
              (case side2 => exact HC125_0.out)
              rintro e w43 ⟨v129, rfl, ho0, hb⟩
              refine ⟨_, rfl, ?_⟩
              replace HO_8 := Aside0.mk (Kd.S_elder' (sS HO_8.out) (Kd.R_base ho0) hb); have HO130 := Aside0.mk (Kd.R_lower ho0 (below_size (by repeat (first | exact sH HB.out | refine sN (w := w) ?_ | with_reducible refine sG (w := w) ?_ (by assumption))))); replace BK121 := kB BK121 hb; replace BK122 := kB BK122 hb; replace HB := Aside0.mk (below_step (by repeat (first | exact sH HB.out | refine sN (w := w) ?_ | with_reducible refine sG (w := w) ?_ (by assumption))) hb)
              (try clear hb)
              (try clear hb2)
              (try clear hk)
              (try clear hi)
              (try clear ho0)
              obtain ⟨Ao44, co44, eo44⟩ := Kd.R_slice HO130.out
              (first | subst eo44 | (injection eo44 with f1_ f2_ f3_; have f4_ := f1_.symm; have f5_ := f3_.symm; clear f1_ f2_ f3_; subst f4_; subst f5_))
              refine hK.out _ _ ⟨(blk_cell BK121.out 0).trans rfl, (blk_cell BK121.out 1).trans rfl, (blk_cell BK121.out 2).trans rfl, (blk_cell BK121.out 3).trans rfl, (blk_cell BK121.out 4).trans rfl⟩ (fun hHeld => ?_)
              clear hK K
              refine norm_ (a' := ?_) ?_ ?_
              rotate_left
              ·
               show Act.put _ (some 51) _ = _
               simp only [sP]
               rfl
              refine pu (i := 15) (N := some 52) (v := ?_) (a' := ?_) #[X,X,X,X,X,X,X,X,X,X,X,X,X,X,X,X,O,O,O] rfl rfl HT_ (by kernel_rfl) (fun _ _ _ h => h) ⟨by rfl, ?_⟩ ?_ ?_
              rotate_left; (intro w'; go_simp; with_reducible rfl); rotate_left; (simp only [sP]; rfl)
              refine one_ (i := 16) (N := some 53) #[X,X,X,X,X,X,X,X,X,X,X,X,X,X,X,X,X,O,O] rfl rfl (one_of HT_.out (by kernel_rfl)) (by decide) (fun K hK => ?_)
              refine value_ (w1 := ?_) (v := ?_) (by rfl) rfl ?_ ?_
              rotate_left 2
              ·
               go_simp
               constructor
               ·
                rfl
               ·
                rfl
              refine hK.out _ _ ⟨(blk_cell (blk_alloc BK121.out _) 0).trans rfl, (blk_cell (blk_alloc BK121.out _) 1).trans rfl, (blk_cell (blk_alloc BK121.out _) 2).trans rfl, (blk_cell (blk_alloc BK121.out _) 3).trans rfl, (blk_cell (blk_alloc BK121.out _) 4).trans rfl⟩ (fun hHeld => ?_)
              clear hK K
              refine norm_ (a' := ?_) ?_ ?_
              rotate_left
              ·
               show Act.put _ (some 53) _ = _
               simp only [sP]
               rfl
              refine one_ (i := 17) (N := some 54) #[X,X,X,X,X,X,X,X,X,X,X,X,X,X,X,X,X,X,O] rfl rfl (one_of HT_.out (by kernel_rfl)) (by decide) (fun K hK => ?_)
              refine Kd.S_append_step k35 (w0 := w) w.heap.size (by rfl) (.tmp 37) (.tmp 53) 32 35 (.agg #[(.int .i64 0), (.int .i64 0), (.int .i64 0), (.slice none 0 0)]) 48 rfl Try.underlying32 info35 rfl (by decide) (by omega) u8 x8_1 (⟨wrap64 (Int.tdiv (wrap64 (Int.tdiv x30_1 2)) a0_3), Int.tmod (wrap64 (Int.tdiv x30_1 2)) a0_3, Go.bits .and .i64 x30_1 1, t128⟩ : S35) [.int .i64 (wrap64 (Int.tdiv (wrap64 (Int.tdiv x30_1 2)) a0_3)), .int .i64 (Int.tmod (wrap64 (Int.tdiv x30_1 2)) a0_3), .int .i64 (Go.bits .and .i64 x30_1 1), .slice Ao44 t128.length co44] (fun _ => True) (fun k_ => some k_ = (.slice Ao44 t128.length co44 : Value).ownBlock) rfl rfl ?aP (fun k_ hk_ => ((Kd.R_mono (ok' := fun k_ => ((fun _ => True)) k_ ∧ some k_ ≠ (u8 : Value).ownBlock) (Kd.R_apart' (HO130.out) (Kd.S_typed HO_8.out) (by decide)) (fun k_ hk => ⟨trivial, hk.2⟩))).1 k_ hk_.symm) ?aF ?aO ?aB ?aS ?aL ?_
              (case aP => exact k35_mkM _ _ _ (⟨wrap64 (Int.tdiv (wrap64 (Int.tdiv x30_1 2)) a0_3), Int.tmod (wrap64 (Int.tdiv x30_1 2)) a0_3, Go.bits .and .i64 x30_1 1, t128⟩ : S35) (Kd.R_mono (Kd.R_tight rfl (Kd.R_mono (ok' := fun k_ => ((fun _ => True)) k_ ∧ some k_ ≠ (u8 : Value).ownBlock) (Kd.R_apart' (HO130.out) (Kd.S_typed HO_8.out) (by decide)) (fun k_ hk => ⟨trivial, hk.2⟩))) (fun _ h_ => h_)))
              (case aB => exact (by repeat (first | exact sH HB.out | refine sN (w := w) ?_ | with_reducible refine sG (w := w) ?_ (by assumption))))
              (case aF => exact (fun _ _ => trivial))
              (case aO => exact (by (with_reducible repeat (first | apply Kd.S_alloc | apply Kd.S_drewN | apply Kd.S_drew)); exact Kd.S_mono HO_8.out (fun k_ hk => ⟨trivial, fun e_ => hk.2 e_⟩)))
              (case aS => exact (below_size (by repeat (first | exact sH HB.out | refine sN (w := w) ?_ | with_reducible refine sG (w := w) ?_ (by assumption)))))
              (case aL => have := LMc39.out; omega)
              intro v132 w45 ho hb hg hat
              rw [← Ny131.out] at ho
              have n0_ := Aside0.mk (blk_grown (g := gb121) (o := .cells #[.int .i64 a0_0, .int .i64 a0_1, .int .i64 a0_2, .int .i64 a0_3, .slice (some ad126) l0_4.length c0_4] 27 (0, 0)) (by first | exact BK121.out | (refine sO ?_; exact BK121.out)) hg (Kd.S_ne HO_8.out BK121.out (by decide))); have n1_ := Aside0.mk (blk_grown (g := gb122) (o := .cells #[.int .i64 a1_0, .int .i64 a1_1, .int .i64 a1_2, .int .i64 a1_3, .slice (some ad125) l1_4.length c1_4] 27 (0, 0)) (by first | exact BK122.out | (refine sO ?_; exact BK122.out)) hg (Kd.S_ne HO_8.out BK122.out (by decide))); have n2_ := Aside0.mk (hb); have n3_ := Aside0.mk (ho); clear BK121; clear BK122; clear HB; clear HO_8; clear HO130; have BK121 := n0_; have BK122 := n1_; have HB := n2_; have HO133 := n3_; clear n0_ n1_ n2_ n3_
              clear ho hb hg hat
              refine hK.out _ _ ⟨(blk_cell BK121.out 0).trans rfl, (blk_cell BK121.out 1).trans rfl, (blk_cell BK121.out 2).trans rfl, (blk_cell BK121.out 3).trans rfl, (blk_cell BK121.out 4).trans rfl⟩ (fun hHeld => ?_)
              clear hK K
              refine norm_ (a' := ?_) ?_ ?_
              rotate_left
              ·
               show Act.put _ (some 54) _ = _
               simp only [sP]
               rfl
              refine pu (i := 18) (N := some 8) (v := ?_) (a' := ?_) #[X,X,X,X,X,X,X,X,X,X,X,X,X,X,X,X,X,X,X] rfl rfl HT_ (by kernel_rfl) (fun _ _ _ h => h) ⟨by rfl, ?_⟩ ?_ ?_
              rotate_left; (intro w'; go_simp; with_reducible rfl); rotate_left; (simp only [sP]; rfl)
              refine done_ (done_of HT_.out (by kernel_rfl)) ?_
              try go_wp2
              go_roundg k1
              case measure => have := HK1.out; omega
              case rel => exact ⟨(y131), (wrap64 (x30_1 + 1)), (by first | rfl | (simp; done) | (simp [*]; done)), H', ⟨by have := HK1.out; omega⟩, ⟨by (with_reducible repeat (first | apply Kd.S_alloc | apply Kd.S_drewN | apply Kd.S_drew)); exact HO133.out⟩, ⟨by (try refine sO ?_); exact BK121.out⟩, ⟨by (try refine sO ?_); exact BK122.out⟩, ⟨by repeat (first | exact sH HB.out | refine sN (w := w) ?_ | with_reducible refine sG (w := w) ?_ (by assumption))⟩⟩
             ·
              rw [if_neg c39] at H
              exact absurd H (by simp)
         ·
          rw [if_neg c29] at H
          exact absurd H (by simp)
        ·
         rw [if_neg c28] at H
         exact absurd H (by simp)
       ·
        rw [if_neg c27] at H
        exact absurd H (by simp)
      ·
       rw [if_neg c26] at H
       have c26b0 : decide (x30_1 < (l1_4.length : Int)) = false := decide_eq_false c26
       clear c26
       simp only [Option.some.injEq, Prod.mk.injEq] at H
       obtain ⟨rfl, rfl⟩ := H
       go_wp2
       go_ret2
       exact ⟨_, by first | rfl | (simp [errW_none, errW_some] <;> rfl) | (simp [*, errW_none, errW_some] <;> rfl), by (with_reducible repeat (first | apply Kd.S_alloc | apply Kd.S_drewN | apply Kd.S_drew)); exact HO_8.out, by repeat (first | exact sH HB.out | refine sN (w := w) ?_ | with_reducible refine sG (w := w) ?_ (by assumption))⟩
  ·
   rw [if_neg c6] at H
   have c6b0 : (t124 == 0) = false := beq_eq_false_iff_ne.mpr c6
   have c6b1 : (t124 != 0) = true := bne_iff_ne.mpr c6
   simp only [Option.some.injEq, Prod.mk.injEq] at H
   obtain ⟨rfl, rfl⟩ := H
   go_enter Try.func14, Try.ntmps14
   go_wp2_with (first | ((with_reducible refine gate_dst (N := 2) rfl ?_); refine box_event rfl (N := 2) rfl (cs := #[.int .i64 a0_0, .int .i64 a0_1, .int .i64 a0_2, .int .i64 a0_3, .slice A0_4 l0_4.length c0_4]) (t := 27) (by go_simp; try rfl) ?_; intro gb121 hg w46 hbox hb; have BK121 := Aside0.mk (hbox); have GW121 := Aside0.mk ((by rw [hg]; exact (sZ HB) : w.heap.size ≤ gb121)); have GE121 := Aside0.mk ((by rw [hg]; exact (sZ HB) : w.heap.size ≤ gb121)); replace HB := kH HB hb; clear hb hbox hg) | ((with_reducible refine gate_dst (N := 3) rfl ?_); refine box_event rfl (N := 3) rfl (cs := #[.int .i64 a1_0, .int .i64 a1_1, .int .i64 a1_2, .int .i64 a1_3, .slice A1_4 l1_4.length c1_4]) (t := 27) (by go_simp; try rfl) ?_; intro gb122 hg w47 hbox hb; have BK122 := Aside0.mk (hbox); have GW122 := Aside0.mk ((by rw [hg]; exact (below_size (by repeat (first | exact sH HB.out | refine sN (w := w) ?_ | with_reducible refine sG (w := w) ?_ (by assumption)))) : w.heap.size ≤ gb122)); have GE122 := Aside0.mk ((by rw [hg]; exact (below_size (by repeat (first | exact sH HB.out | refine sN (w := w) ?_ | with_reducible refine sG (w := w) ?_ (by assumption)))) : w.heap.size ≤ gb122)); replace HB := Aside0.mk (below_step (by repeat (first | exact sH HB.out | refine sN (w := w) ?_ | with_reducible refine sG (w := w) ?_ (by assumption))) hb); have NB121_122 := Aside0.mk ((by rw [hg]; exact Nat.ne_of_lt (blk_lt (g := gb121) (o := .cells #[.int .i64 a0_0, .int .i64 a0_1, .int .i64 a0_2, .int .i64 a0_3, .slice A0_4 l0_4.length c0_4] 27 (0, 0)) (by first | exact BK121.out | (refine sO ?_; exact BK121.out))) : gb121 ≠ gb122)); have NB122_121 := Aside0.mk ((by rw [hg]; exact Nat.ne_of_gt (blk_lt (g := gb121) (o := .cells #[.int .i64 a0_0, .int .i64 a0_1, .int .i64 a0_2, .int .i64 a0_3, .slice A0_4 l0_4.length c0_4] 27 (0, 0)) (by first | exact BK121.out | (refine sO ?_; exact BK121.out))) : gb122 ≠ gb121)); replace BK121 := kB BK121 hb; clear hb hbox hg; have hnb48 := NB121_122.out; have hnc48 := NB122_121.out; obtain ⟨hcz49_0, hcz49_1, hcz49_2, hcz49_3, hcz49_4, hfz49_0, hfz49_1, hfz49_2, hfz49_3, hfz49_4⟩ := cs5 BK121.out) | ((with_reducible refine gate_callee (f := 17) rfl ?_); refine goesL_ (some 13) rfl rfl Try.func17 (by kernel_rfl) rfl #[.agg #[.int .i64 a0_0, .int .i64 a0_1, .int .i64 a0_2, .int .i64 a0_3, .slice A0_4 l0_4.length c0_4]] rfl (by (try simp only [sM]); first | done | rfl | (simp only [sT]; rfl)) ?_; (with_reducible refine (image_Check.calls k a0_0 a0_1 a0_2 a0_3 _ _ l0_4 t123 _ ?side1 ?side2 A3.out).mono ?_); (case side1 => exact sC (Kd.C_below HR0_4.out HB.out)); (case side2 => exact HC0_4.out); rintro e w50 ⟨rfl, hb⟩; refine ⟨_, rfl, ?_⟩; replace BK121 := kB BK121 hb; replace BK122 := kB BK122 hb; replace HB := Aside0.mk (below_step (by repeat (first | exact sH HB.out | refine sN (w := w) ?_ | with_reducible refine sG (w := w) ?_ (by assumption))) hb); (try clear hb); (try clear hb2); (try clear hk); (try clear hi); obtain ⟨hcz51_0, hcz51_1, hcz51_2, hcz51_3, hcz51_4, hfz51_0, hfz51_1, hfz51_2, hfz51_3, hfz51_4⟩ := cs5 BK122.out) | ((with_reducible refine gate_callee (f := 17) rfl ?_); refine goesL_ (some 18) rfl rfl Try.func17 (by kernel_rfl) rfl #[.agg #[.int .i64 a1_0, .int .i64 a1_1, .int .i64 a1_2, .int .i64 a1_3, .slice A1_4 l1_4.length c1_4]] rfl (by (try simp only [sM]); first | done | rfl | (simp only [sT]; rfl)) ?_; (with_reducible refine (image_Check.calls k a1_0 a1_1 a1_2 a1_3 _ _ l1_4 t124 _ ?side1 ?side2 A5.out).mono ?_); (case side1 => exact sC (Kd.C_below HR1_4.out HB.out)); (case side2 => exact HC1_4.out); rintro e w52 ⟨rfl, hb⟩; refine ⟨_, rfl, ?_⟩; replace BK121 := kB BK121 hb; replace BK122 := kB BK122 hb; replace HB := Aside0.mk (below_step (by repeat (first | exact sH HB.out | refine sN (w := w) ?_ | with_reducible refine sG (w := w) ?_ (by assumption))) hb); (try clear hb); (try clear hb2); (try clear hk); (try clear hi)))
   go_ret2
   exact ⟨_, by first | rfl | (simp [errW_none, errW_some] <;> rfl) | (simp [*, errW_none, errW_some] <;> rfl), by first | exact Kd.S_nil _ _ _ _ _ | exact Kd.N_nil _ _ _ _ _ | exact Kd.V_nil _ _ _ _ _ | exact Kd.Q_nil _ _ _ _ _ | exact Kd.R_nil _ _ _ _ _, by repeat (first | exact sH HB.out | refine sN (w := w) ?_ | with_reducible refine sG (w := w) ?_ (by assumption))⟩
 ·
  rw [if_neg c4] at H
  have c4b0 : (t123 == 0) = false := beq_eq_false_iff_ne.mpr c4
  have c4b1 : (t123 != 0) = true := bne_iff_ne.mpr c4
  simp only [Option.some.injEq, Prod.mk.injEq] at H
  obtain ⟨rfl, rfl⟩ := H
  go_enter Try.func14, Try.ntmps14
  go_wp2_with (first | ((with_reducible refine gate_dst (N := 2) rfl ?_); refine box_event rfl (N := 2) rfl (cs := #[.int .i64 a0_0, .int .i64 a0_1, .int .i64 a0_2, .int .i64 a0_3, .slice A0_4 l0_4.length c0_4]) (t := 27) (by go_simp; try rfl) ?_; intro gb121 hg w53 hbox hb; have BK121 := Aside0.mk (hbox); have GW121 := Aside0.mk ((by rw [hg]; exact (sZ HB) : w.heap.size ≤ gb121)); have GE121 := Aside0.mk ((by rw [hg]; exact (sZ HB) : w.heap.size ≤ gb121)); replace HB := kH HB hb; clear hb hbox hg) | ((with_reducible refine gate_dst (N := 3) rfl ?_); refine box_event rfl (N := 3) rfl (cs := #[.int .i64 a1_0, .int .i64 a1_1, .int .i64 a1_2, .int .i64 a1_3, .slice A1_4 l1_4.length c1_4]) (t := 27) (by go_simp; try rfl) ?_; intro gb122 hg w54 hbox hb; have BK122 := Aside0.mk (hbox); have GW122 := Aside0.mk ((by rw [hg]; exact (below_size (by repeat (first | exact sH HB.out | refine sN (w := w) ?_ | with_reducible refine sG (w := w) ?_ (by assumption)))) : w.heap.size ≤ gb122)); have GE122 := Aside0.mk ((by rw [hg]; exact (below_size (by repeat (first | exact sH HB.out | refine sN (w := w) ?_ | with_reducible refine sG (w := w) ?_ (by assumption)))) : w.heap.size ≤ gb122)); replace HB := Aside0.mk (below_step (by repeat (first | exact sH HB.out | refine sN (w := w) ?_ | with_reducible refine sG (w := w) ?_ (by assumption))) hb); have NB121_122 := Aside0.mk ((by rw [hg]; exact Nat.ne_of_lt (blk_lt (g := gb121) (o := .cells #[.int .i64 a0_0, .int .i64 a0_1, .int .i64 a0_2, .int .i64 a0_3, .slice A0_4 l0_4.length c0_4] 27 (0, 0)) (by first | exact BK121.out | (refine sO ?_; exact BK121.out))) : gb121 ≠ gb122)); have NB122_121 := Aside0.mk ((by rw [hg]; exact Nat.ne_of_gt (blk_lt (g := gb121) (o := .cells #[.int .i64 a0_0, .int .i64 a0_1, .int .i64 a0_2, .int .i64 a0_3, .slice A0_4 l0_4.length c0_4] 27 (0, 0)) (by first | exact BK121.out | (refine sO ?_; exact BK121.out))) : gb122 ≠ gb121)); replace BK121 := kB BK121 hb; clear hb hbox hg; have hnb55 := NB121_122.out; have hnc55 := NB122_121.out; obtain ⟨hcz56_0, hcz56_1, hcz56_2, hcz56_3, hcz56_4, hfz56_0, hfz56_1, hfz56_2, hfz56_3, hfz56_4⟩ := cs5 BK121.out) | ((with_reducible refine gate_callee (f := 17) rfl ?_); refine goesL_ (some 13) rfl rfl Try.func17 (by kernel_rfl) rfl #[.agg #[.int .i64 a0_0, .int .i64 a0_1, .int .i64 a0_2, .int .i64 a0_3, .slice A0_4 l0_4.length c0_4]] rfl (by (try simp only [sM]); first | done | rfl | (simp only [sT]; rfl)) ?_; (with_reducible refine (image_Check.calls k a0_0 a0_1 a0_2 a0_3 _ _ l0_4 t123 _ ?side1 ?side2 A3.out).mono ?_); (case side1 => exact sC (Kd.C_below HR0_4.out HB.out)); (case side2 => exact HC0_4.out); rintro e w57 ⟨rfl, hb⟩; refine ⟨_, rfl, ?_⟩; replace BK121 := kB BK121 hb; replace BK122 := kB BK122 hb; replace HB := Aside0.mk (below_step (by repeat (first | exact sH HB.out | refine sN (w := w) ?_ | with_reducible refine sG (w := w) ?_ (by assumption))) hb); (try clear hb); (try clear hb2); (try clear hk); (try clear hi)))
  go_ret2
  exact ⟨_, by first | rfl | (simp [errW_none, errW_some] <;> rfl) | (simp [*, errW_none, errW_some] <;> rfl), by first | exact Kd.S_nil _ _ _ _ _ | exact Kd.N_nil _ _ _ _ _ | exact Kd.V_nil _ _ _ _ _ | exact Kd.Q_nil _ _ _ _ _ | exact Kd.R_nil _ _ _ _ _, by repeat (first | exact sH HB.out | refine sN (w := w) ?_ | with_reducible refine sG (w := w) ?_ (by assumption))⟩

end Go.Proofs.Ytcnmocbiekfpbaa.P

-- Written by a program of this session, after the kit's print.
import Derived.Test.YtcnmocbiekfpbaaPx0
import Derived.Test.YtcnmocbiekfpbaaP0Short
import Derived.Test.YtcnmocbiekfpbaaPx4
import Derived.Test.YtcnmocbiekfpbaaPx5
namespace Go.Proofs.Ytcnmocbiekfpbaa.P
open Go.RowKit Go.Proofs.YtcnmocbiekfpbaaW.PrintWords Go.Proofs.YtcnmocbiekfpbaaW.PrintLast Go.Proofs.YtcnmocbiekfpbaaW.PrintMore
attribute [local go_sem] max2_int min2_int max_two min_two max_three min_three max_four min_four   -- for this text's walks alone
set_option linter.unusedVariables false
set_option linter.unusedSimpArgs false

def wipeF {α : Type} (z : α) (xs : List α) (i : Nat) : Nat → List α
 | 0 => xs
 | c + 1 => wipeF z (xs.set i z) (i + 1) c
theorem wipeF_len {α : Type} (z : α) : ∀ (c : Nat) (xs : List α) (i : Nat), (wipeF z xs i c).length = xs.length
 | 0, _, _ => rfl
 | c + 1, xs, i => by rw [wipeF, wipeF_len z c]; simp
theorem wipeF_get {α : Type} (z : α) : ∀ (c : Nat) (xs : List α) (i j : Nat), j < xs.length → (wipeF z xs i c).getD j z = if i ≤ j ∧ j < i + c then z else xs.getD j z
 | 0, xs, i, j, hj => by rw [wipeF, if_neg (by omega)]
 | c + 1, xs, i, j, hj => by
  rw [wipeF, wipeF_get z c (xs.set i z) (i + 1) j (by simpa using hj)]
  by_cases h1 : i = j
  ·
   subst h1
   rw [if_neg (by omega), if_pos (by omega)]
   simp [List.getD_eq_getElem?_getD, hj]
  ·
   by_cases h2 : i + 1 ≤ j ∧ j < i + 1 + c
   ·
    rw [if_pos h2, if_pos (by omega)]
   ·
    rw [if_neg h2, if_neg (by omega)]
    simp [List.getD_eq_getElem?_getD, List.getElem?_set_ne h1]
theorem wipeF_mem {α : Type} (z : α) (Q : α → Prop) (hz : Q z) : ∀ (c : Nat) (xs : List α) (i : Nat), (∀ x ∈ xs, Q x) → ∀ x ∈ wipeF z xs i c, Q x
 | 0, _, _, h => h
 | c + 1, xs, i, h => wipeF_mem z Q hz c (xs.set i z) (i + 1) (fun x hx => by
  rcases List.mem_or_eq_of_mem_set hx with hx | rfl
  ·
   exact h x hx
  ·
   exact hz)
theorem zeroB (w : World) : (zeroValue 33).run Try.prog w = .ok (.slice none 0 0) w := by kernel_rfl
theorem R_wipe {W0 : World} {base g n c : Nat} {ok : Nat → Prop} : ∀ (q : Nat) (W : World) (xs : List (List Int)) (i : Nat), Kd.S (Kd.slice 5 (Kd.int .u8)) 33 W base ok (.slice (some ⟨g, 0, none⟩) n c) xs → Below W0.heap.size W0 W → W0.heap.size ≤ g → i + q ≤ xs.length →
  Kd.S (Kd.slice 5 (Kd.int .u8)) 33 (W.setCells g i (List.replicate q (.slice none 0 0))) base ok (.slice (some ⟨g, 0, none⟩) n c) (wipeF [] xs i q) ∧ Below W0.heap.size W0 (W.setCells g i (List.replicate q (.slice none 0 0))) ∧ ∀ k, k ≠ g → (W.setCells g i (List.replicate q (.slice none 0 0))).heap[k]? = W.heap[k]?
 | 0, W, xs, i, h, hb, _, _ => ⟨h, hb, fun _ _ => rfl⟩
 | q + 1, W, xs, i, h, hb, hg, hi => by
  have hp := S_put_row (ok := ok) (okg := fun _ => False) (Kd.S_mono h (fun k hk => ⟨hk, id⟩)) (i := i) (by omega) (Kd.R_nil (Kd.int .u8) 5 W base (fun _ => False)) (fun k hk => hk.elim)
  have ih := R_wipe q (W.setCell ⟨g, i, none⟩ (.slice none 0 0)) (xs.set i []) (i + 1) hp.1 (hb.setCell (p := ⟨g, i, none⟩) hg _) hg (by rw [List.length_set]; omega)
  rw [List.replicate_succ]
  exact ⟨ih.1, ih.2.1, fun k hk => (ih.2.2 k hk).trans (Below.heap_setCell W ⟨g, i, none⟩ _ k hk)⟩
def image_Wiped.lo (d n : Int) : Int := wrap64 (n * wrap64 (2 * d))
def image_Wiped.hi (d n : Int) : Int := wrap64 (wrap64 (n + 1) * wrap64 (2 * d))
def image_Wiped.f (k : Nat) (a0_0 : Int) (a0_1 : Int) (a0_2 : Int) (a0_3 : Int) (l0_4 : List (List Int)) (a1 : Int) : Option (Int × Int × Int × Int × List (List Int) × Int) :=
 (image_Check.f k a0_0 a0_1 a0_2 a0_3 l0_4).bind fun e => if e = 0 then (if a1 < 0 ∨ wrap64 (a0_0 + a0_1) ≤ a1 then some (0, 0, 0, 0, [], 2) else (image_twin.f k a0_0 a0_1 a0_2 a0_3 l0_4).bind fun q => if 0 ≤ image_Wiped.lo a0_3 a1 ∧ image_Wiped.lo a0_3 a1 < image_Wiped.hi a0_3 a1 ∧ image_Wiped.hi a0_3 a1 ≤ (q.2.2.2.2.length : Int) then some (q.1, q.2.1, q.2.2.1, q.2.2.2.1, wipeF [] q.2.2.2.2 (image_Wiped.lo a0_3 a1).toNat (image_Wiped.hi a0_3 a1 - image_Wiped.lo a0_3 a1).toNat, 0) else none) else some (0, 0, 0, 0, [], e)
set_option maxHeartbeats 8000000 in
set_option maxRecDepth 100000 in
theorem Wiped_check (k0 : Nat) (a b c d : Int) (Am : Option Addr) (cm : Nat) (sl : List (List Int)) (n : Int) (w : World) (hCm : Kd.C (Kd.slice 5 (Kd.int .u8)) w Am sl.length sl) (hcm : sl.length ≤ cm) (e0 : Int) (hck : image_Check.f k0 a b c d sl = some e0) (he : e0 ≠ 0) : Calls Try.prog 16 #[.agg #[.int .i64 a, .int .i64 b, .int .i64 c, .int .i64 d, .slice Am sl.length cm], .int .i64 n] w fun e w' => ∃ v4_ : Value, e = .returned (.tuple #[.agg #[.int .i64 0, .int .i64 0, .int .i64 0, .int .i64 0, v4_], .int .i64 e0]) ∧ Kd.S (Kd.slice 5 (Kd.int .u8)) 33 w' w.heap.size (fun _ => True) v4_ [] ∧ Below w.heap.size w w' := by
 have hu27 := Try.underlying27
 have hu24 := Try.underlying24
 have HB := Aside0.mk (Below.refl w.heap.size w)
 have HC := Aside0.mk hCm
 have HCM := Aside0.mk hcm
 have HCK := Aside0.mk hck
 have d1 : (e0 == 0) = false := beq_false_of_ne he
 have d2 : (e0 = 0) = False := eq_false he
 clear hck he
 clear hCm hcm
 go_enter Try.func16, Try.ntmps16
 have tok1 : True := trivial
 go_wp2_with (first | (have _ := tok1; (with_reducible refine gate_dst (N := 2) rfl ?_); refine box_event rfl (N := 2) rfl (cs := #[.int .i64 a, .int .i64 b, .int .i64 c, .int .i64 d, .slice Am sl.length cm]) (t := 27) (by go_simp; try rfl) ?_; intro g3 hg w1 hbox hb; have hs : Below w.heap.size w w1 := below_step (by repeat (first | exact Below.refl _ _ | apply below_alloc | apply pw_below_drewN | apply below_drew1)) hb; have SZ1 := Aside0.mk (show w.heap.size ≤ g3 ∧ g3 < w1.heap.size from ⟨by rw [hg]; exact (below_size (by repeat (first | exact Below.refl _ _ | apply below_alloc | apply pw_below_drewN | apply below_drew1))), blk_lt hbox⟩); replace HB := Aside0.mk (below_step HB.out hs); have BKg3 := Aside0.mk hbox; clear hb hbox hg hs; obtain ⟨hcg3_0, hcg3_1, hcg3_2, hcg3_3, hcg3_4, hfg3_0, hfg3_1, hfg3_2, hfg3_3, hfg3_4⟩ := cs5 BKg3.out; clear tok1; have tok2 : True := trivial) | (have _ := tok2; (with_reducible refine gate_dst (N := 4) rfl ?_); refine box_event rfl (N := 4) rfl (cs := #[.int .i64 0, .int .i64 0, .int .i64 0, .int .i64 0, .slice none 0 0]) (t := 27) (by go_simp; try rfl) ?_; intro g6 hg w2 hbox hb; have hs : Below w1.heap.size w1 w2 := below_step (by repeat (first | exact Below.refl _ _ | apply below_alloc | apply pw_below_drewN | apply below_drew1)) hb; have SZ2 := Aside0.mk (show w1.heap.size ≤ g6 ∧ g6 < w2.heap.size from ⟨by rw [hg]; exact (below_size (by repeat (first | exact Below.refl _ _ | apply below_alloc | apply pw_below_drewN | apply below_drew1))), blk_lt hbox⟩); (try clear hcg3_0 hfg3_0); (try clear hcg3_1 hfg3_1); (try clear hcg3_2 hfg3_2); (try clear hcg3_3 hfg3_3); (try clear hcg3_4 hfg3_4); replace BKg3 := Aside0.mk (blk_below BKg3.out hs); replace HB := Aside0.mk (below_step HB.out hs); have hneg3_g6 : g3 ≠ g6 := (by have := SZ2.out; have := SZ1.out; omega); have hneg6_g3 : g6 ≠ g3 := hneg3_g6.symm; have BKg6 := Aside0.mk hbox; clear hb hbox hg hs; obtain ⟨hcg3_0, hcg3_1, hcg3_2, hcg3_3, hcg3_4, hfg3_0, hfg3_1, hfg3_2, hfg3_3, hfg3_4⟩ := cs5 BKg3.out; obtain ⟨hcg6_0, hcg6_1, hcg6_2, hcg6_3, hcg6_4, hfg6_0, hfg6_1, hfg6_2, hfg6_3, hfg6_4⟩ := cs5 BKg6.out; clear tok2; have tok3 : True := trivial) | (have _ := tok3; go_at_call 17; (with_reducible refine (image_Check.calls k0 a b c d Am cm sl e0 _ ?s1 HCM.out HCK.out).mono ?_); (case s1 => exact Kd.C_below HC.out (by repeat (first | exact HB.out | apply below_alloc | apply pw_below_drewN | apply below_drew1))); rintro e w3 ⟨rfl, hb⟩; (try clear hcg3_0 hfg3_0); (try clear hcg3_1 hfg3_1); (try clear hcg3_2 hfg3_2); (try clear hcg3_3 hfg3_3); (try clear hcg3_4 hfg3_4); (try clear hcg6_0 hfg6_0); (try clear hcg6_1 hfg6_1); (try clear hcg6_2 hfg6_2); (try clear hcg6_3 hfg6_3); (try clear hcg6_4 hfg6_4); have hs : Below w2.heap.size w2 w3 := below_step (by repeat (first | exact Below.refl _ _ | apply below_alloc | apply pw_below_drewN | apply below_drew1)) hb; have hl : w2.heap.size ≤ _ := below_size (w := w2) (by repeat (first | exact Below.refl _ _ | apply below_alloc | apply pw_below_drewN | apply below_drew1)); have SZ3 := Aside0.mk (show w2.heap.size ≤ w3.heap.size from hs.size); replace BKg3 := Aside0.mk (blk_below BKg3.out hs); replace BKg6 := Aside0.mk (blk_below BKg6.out hs); replace HB := Aside0.mk (below_step HB.out hs); clear hb hs; (try clear hl); obtain ⟨hcg3_0, hcg3_1, hcg3_2, hcg3_3, hcg3_4, hfg3_0, hfg3_1, hfg3_2, hfg3_3, hfg3_4⟩ := cs5 BKg3.out; obtain ⟨hcg6_0, hcg6_1, hcg6_2, hcg6_3, hcg6_4, hfg6_0, hfg6_1, hfg6_2, hfg6_3, hfg6_4⟩ := cs5 BKg6.out; clear tok3))
 (try clear hcg3_0 hfg3_0)
 (try clear hcg3_1 hfg3_1)
 (try clear hcg3_2 hfg3_2)
 (try clear hcg3_3 hfg3_3)
 (try clear hcg3_4 hfg3_4)
 (try clear hcg6_0 hfg6_0)
 (try clear hcg6_1 hfg6_1)
 (try clear hcg6_2 hfg6_2)
 (try clear hcg6_3 hfg6_3)
 (try clear hcg6_4 hfg6_4)
 replace BKg3 := Aside0.mk (blk_far BKg3.out (p := ⟨g6, 0, none⟩) (by show _ ≠ _; have := SZ1.out; have := SZ2.out; have := SZ3.out; omega) (.int .i64 0))
 replace BKg6 := Aside0.mk (blk_put BKg6.out 0 (.int .i64 0) rfl)
 replace HB := Aside0.mk (below_set HB.out (by have := SZ1.out; have := SZ2.out; have := SZ3.out; omega : w.heap.size ≤ g6) (j := 0) (v := .int .i64 0))
 replace BKg3 := Aside0.mk (blk_far BKg3.out (p := ⟨g6, 1, none⟩) (by show _ ≠ _; have := SZ1.out; have := SZ2.out; have := SZ3.out; omega) (.int .i64 0))
 replace BKg6 := Aside0.mk (blk_put BKg6.out 1 (.int .i64 0) rfl)
 replace HB := Aside0.mk (below_set HB.out (by have := SZ1.out; have := SZ2.out; have := SZ3.out; omega : w.heap.size ≤ g6) (j := 1) (v := .int .i64 0))
 replace BKg3 := Aside0.mk (blk_far BKg3.out (p := ⟨g6, 2, none⟩) (by show _ ≠ _; have := SZ1.out; have := SZ2.out; have := SZ3.out; omega) (.int .i64 0))
 replace BKg6 := Aside0.mk (blk_put BKg6.out 2 (.int .i64 0) rfl)
 replace HB := Aside0.mk (below_set HB.out (by have := SZ1.out; have := SZ2.out; have := SZ3.out; omega : w.heap.size ≤ g6) (j := 2) (v := .int .i64 0))
 replace BKg3 := Aside0.mk (blk_far BKg3.out (p := ⟨g6, 3, none⟩) (by show _ ≠ _; have := SZ1.out; have := SZ2.out; have := SZ3.out; omega) (.int .i64 0))
 replace BKg6 := Aside0.mk (blk_put BKg6.out 3 (.int .i64 0) rfl)
 replace HB := Aside0.mk (below_set HB.out (by have := SZ1.out; have := SZ2.out; have := SZ3.out; omega : w.heap.size ≤ g6) (j := 3) (v := .int .i64 0))
 replace BKg3 := Aside0.mk (blk_far BKg3.out (p := ⟨g6, 4, none⟩) (by show _ ≠ _; have := SZ1.out; have := SZ2.out; have := SZ3.out; omega) (.slice none 0 0))
 replace BKg6 := Aside0.mk (blk_put BKg6.out 4 (.slice none 0 0) rfl)
 replace HB := Aside0.mk (below_set HB.out (by have := SZ1.out; have := SZ2.out; have := SZ3.out; omega : w.heap.size ≤ g6) (j := 4) (v := .slice none 0 0))
 have SZ4 := Aside0.mk (show w3.heap.size ≤ (((((w3.setCell ⟨g6, 0, none⟩ (.int .i64 0)).setCell ⟨g6, 1, none⟩ (.int .i64 0)).setCell ⟨g6, 2, none⟩ (.int .i64 0)).setCell ⟨g6, 3, none⟩ (.int .i64 0)).setCell ⟨g6, 4, none⟩ (.slice none 0 0)).heap.size from by simp [World.setCell])
 generalize (((((w3.setCell ⟨g6, 0, none⟩ (.int .i64 0)).setCell ⟨g6, 1, none⟩ (.int .i64 0)).setCell ⟨g6, 2, none⟩ (.int .i64 0)).setCell ⟨g6, 3, none⟩ (.int .i64 0)).setCell ⟨g6, 4, none⟩ (.slice none 0 0)) = w4 at HB BKg3 BKg6 SZ4 ⊢
 obtain ⟨hcg3_0, hcg3_1, hcg3_2, hcg3_3, hcg3_4, hfg3_0, hfg3_1, hfg3_2, hfg3_3, hfg3_4⟩ := cs5 BKg3.out; obtain ⟨hcg6_0, hcg6_1, hcg6_2, hcg6_3, hcg6_4, hfg6_0, hfg6_1, hfg6_2, hfg6_3, hfg6_4⟩ := cs5 BKg6.out
 refine bodyPost_ret (results_ct rfl _ _ g6 27 #[.int .i64 0, .int .i64 0, .int .i64 0, .int .i64 0, .slice none 0 0] (0, 0) _ rfl (by first | exact BKg6.out | (refine sO ?_; exact BKg6.out)) hu27 rfl (by kernel_rfl)) rfl ?_
 exact ⟨_, rfl, Kd.S_nil _ _ _ _ _, (by repeat (first | exact HB.out | apply below_alloc | apply pw_below_drewN | apply below_drew1))⟩
set_option maxHeartbeats 8000000 in
set_option maxRecDepth 100000 in
theorem Wiped_less (k0 : Nat) (a b c d : Int) (Am : Option Addr) (cm : Nat) (sl : List (List Int)) (n : Int) (w : World) (hCm : Kd.C (Kd.slice 5 (Kd.int .u8)) w Am sl.length sl) (hcm : sl.length ≤ cm) (hck : image_Check.f k0 a b c d sl = some 0) (hn : n < 0) : Calls Try.prog 16 #[.agg #[.int .i64 a, .int .i64 b, .int .i64 c, .int .i64 d, .slice Am sl.length cm], .int .i64 n] w fun e w' => ∃ v4_ : Value, e = .returned (.tuple #[.agg #[.int .i64 0, .int .i64 0, .int .i64 0, .int .i64 0, v4_], .int .i64 2]) ∧ Kd.S (Kd.slice 5 (Kd.int .u8)) 33 w' w.heap.size (fun _ => True) v4_ [] ∧ Below w.heap.size w w' := by
 have hu27 := Try.underlying27
 have hu24 := Try.underlying24
 have HB := Aside0.mk (Below.refl w.heap.size w)
 have HC := Aside0.mk hCm
 have HCM := Aside0.mk hcm
 have HCK := Aside0.mk hck
 clear hck
 have d3 : decide (n < 0) = true := decide_eq_true hn
 clear hn
 clear hCm hcm
 go_enter Try.func16, Try.ntmps16
 have tok1 : True := trivial
 go_wp2_with (first | (have _ := tok1; (with_reducible refine gate_dst (N := 2) rfl ?_); refine box_event rfl (N := 2) rfl (cs := #[.int .i64 a, .int .i64 b, .int .i64 c, .int .i64 d, .slice Am sl.length cm]) (t := 27) (by go_simp; try rfl) ?_; intro g3 hg w1 hbox hb; have hs : Below w.heap.size w w1 := below_step (by repeat (first | exact Below.refl _ _ | apply below_alloc | apply pw_below_drewN | apply below_drew1)) hb; have SZ1 := Aside0.mk (show w.heap.size ≤ g3 ∧ g3 < w1.heap.size from ⟨by rw [hg]; exact (below_size (by repeat (first | exact Below.refl _ _ | apply below_alloc | apply pw_below_drewN | apply below_drew1))), blk_lt hbox⟩); replace HB := Aside0.mk (below_step HB.out hs); have BKg3 := Aside0.mk hbox; clear hb hbox hg hs; obtain ⟨hcg3_0, hcg3_1, hcg3_2, hcg3_3, hcg3_4, hfg3_0, hfg3_1, hfg3_2, hfg3_3, hfg3_4⟩ := cs5 BKg3.out; clear tok1; have tok2 : True := trivial) | (have _ := tok2; (with_reducible refine gate_dst (N := 4) rfl ?_); refine box_event rfl (N := 4) rfl (cs := #[.int .i64 0, .int .i64 0, .int .i64 0, .int .i64 0, .slice none 0 0]) (t := 27) (by go_simp; try rfl) ?_; intro g6 hg w2 hbox hb; have hs : Below w1.heap.size w1 w2 := below_step (by repeat (first | exact Below.refl _ _ | apply below_alloc | apply pw_below_drewN | apply below_drew1)) hb; have SZ2 := Aside0.mk (show w1.heap.size ≤ g6 ∧ g6 < w2.heap.size from ⟨by rw [hg]; exact (below_size (by repeat (first | exact Below.refl _ _ | apply below_alloc | apply pw_below_drewN | apply below_drew1))), blk_lt hbox⟩); (try clear hcg3_0 hfg3_0); (try clear hcg3_1 hfg3_1); (try clear hcg3_2 hfg3_2); (try clear hcg3_3 hfg3_3); (try clear hcg3_4 hfg3_4); replace BKg3 := Aside0.mk (blk_below BKg3.out hs); replace HB := Aside0.mk (below_step HB.out hs); have hneg3_g6 : g3 ≠ g6 := (by have := SZ2.out; have := SZ1.out; omega); have hneg6_g3 : g6 ≠ g3 := hneg3_g6.symm; have BKg6 := Aside0.mk hbox; clear hb hbox hg hs; obtain ⟨hcg3_0, hcg3_1, hcg3_2, hcg3_3, hcg3_4, hfg3_0, hfg3_1, hfg3_2, hfg3_3, hfg3_4⟩ := cs5 BKg3.out; obtain ⟨hcg6_0, hcg6_1, hcg6_2, hcg6_3, hcg6_4, hfg6_0, hfg6_1, hfg6_2, hfg6_3, hfg6_4⟩ := cs5 BKg6.out; clear tok2; have tok3 : True := trivial) | (have _ := tok3; go_at_call 17; (with_reducible refine (image_Check.calls k0 a b c d Am cm sl 0 _ ?s1 HCM.out HCK.out).mono ?_); (case s1 => exact Kd.C_below HC.out (by repeat (first | exact HB.out | apply below_alloc | apply pw_below_drewN | apply below_drew1))); rintro e w3 ⟨rfl, hb⟩; (try clear hcg3_0 hfg3_0); (try clear hcg3_1 hfg3_1); (try clear hcg3_2 hfg3_2); (try clear hcg3_3 hfg3_3); (try clear hcg3_4 hfg3_4); (try clear hcg6_0 hfg6_0); (try clear hcg6_1 hfg6_1); (try clear hcg6_2 hfg6_2); (try clear hcg6_3 hfg6_3); (try clear hcg6_4 hfg6_4); have hs : Below w2.heap.size w2 w3 := below_step (by repeat (first | exact Below.refl _ _ | apply below_alloc | apply pw_below_drewN | apply below_drew1)) hb; have hl : w2.heap.size ≤ _ := below_size (w := w2) (by repeat (first | exact Below.refl _ _ | apply below_alloc | apply pw_below_drewN | apply below_drew1)); have SZ3 := Aside0.mk (show w2.heap.size ≤ w3.heap.size from hs.size); replace BKg3 := Aside0.mk (blk_below BKg3.out hs); replace BKg6 := Aside0.mk (blk_below BKg6.out hs); replace HB := Aside0.mk (below_step HB.out hs); clear hb hs; (try clear hl); obtain ⟨hcg3_0, hcg3_1, hcg3_2, hcg3_3, hcg3_4, hfg3_0, hfg3_1, hfg3_2, hfg3_3, hfg3_4⟩ := cs5 BKg3.out; obtain ⟨hcg6_0, hcg6_1, hcg6_2, hcg6_3, hcg6_4, hfg6_0, hfg6_1, hfg6_2, hfg6_3, hfg6_4⟩ := cs5 BKg6.out; clear tok3))
 (try clear hcg3_0 hfg3_0)
 (try clear hcg3_1 hfg3_1)
 (try clear hcg3_2 hfg3_2)
 (try clear hcg3_3 hfg3_3)
 (try clear hcg3_4 hfg3_4)
 (try clear hcg6_0 hfg6_0)
 (try clear hcg6_1 hfg6_1)
 (try clear hcg6_2 hfg6_2)
 (try clear hcg6_3 hfg6_3)
 (try clear hcg6_4 hfg6_4)
 replace BKg3 := Aside0.mk (blk_far BKg3.out (p := ⟨g6, 0, none⟩) (by show _ ≠ _; have := SZ1.out; have := SZ2.out; have := SZ3.out; omega) (.int .i64 0))
 replace BKg6 := Aside0.mk (blk_put BKg6.out 0 (.int .i64 0) rfl)
 replace HB := Aside0.mk (below_set HB.out (by have := SZ1.out; have := SZ2.out; have := SZ3.out; omega : w.heap.size ≤ g6) (j := 0) (v := .int .i64 0))
 replace BKg3 := Aside0.mk (blk_far BKg3.out (p := ⟨g6, 1, none⟩) (by show _ ≠ _; have := SZ1.out; have := SZ2.out; have := SZ3.out; omega) (.int .i64 0))
 replace BKg6 := Aside0.mk (blk_put BKg6.out 1 (.int .i64 0) rfl)
 replace HB := Aside0.mk (below_set HB.out (by have := SZ1.out; have := SZ2.out; have := SZ3.out; omega : w.heap.size ≤ g6) (j := 1) (v := .int .i64 0))
 replace BKg3 := Aside0.mk (blk_far BKg3.out (p := ⟨g6, 2, none⟩) (by show _ ≠ _; have := SZ1.out; have := SZ2.out; have := SZ3.out; omega) (.int .i64 0))
 replace BKg6 := Aside0.mk (blk_put BKg6.out 2 (.int .i64 0) rfl)
 replace HB := Aside0.mk (below_set HB.out (by have := SZ1.out; have := SZ2.out; have := SZ3.out; omega : w.heap.size ≤ g6) (j := 2) (v := .int .i64 0))
 replace BKg3 := Aside0.mk (blk_far BKg3.out (p := ⟨g6, 3, none⟩) (by show _ ≠ _; have := SZ1.out; have := SZ2.out; have := SZ3.out; omega) (.int .i64 0))
 replace BKg6 := Aside0.mk (blk_put BKg6.out 3 (.int .i64 0) rfl)
 replace HB := Aside0.mk (below_set HB.out (by have := SZ1.out; have := SZ2.out; have := SZ3.out; omega : w.heap.size ≤ g6) (j := 3) (v := .int .i64 0))
 replace BKg3 := Aside0.mk (blk_far BKg3.out (p := ⟨g6, 4, none⟩) (by show _ ≠ _; have := SZ1.out; have := SZ2.out; have := SZ3.out; omega) (.slice none 0 0))
 replace BKg6 := Aside0.mk (blk_put BKg6.out 4 (.slice none 0 0) rfl)
 replace HB := Aside0.mk (below_set HB.out (by have := SZ1.out; have := SZ2.out; have := SZ3.out; omega : w.heap.size ≤ g6) (j := 4) (v := .slice none 0 0))
 have SZ4 := Aside0.mk (show w3.heap.size ≤ (((((w3.setCell ⟨g6, 0, none⟩ (.int .i64 0)).setCell ⟨g6, 1, none⟩ (.int .i64 0)).setCell ⟨g6, 2, none⟩ (.int .i64 0)).setCell ⟨g6, 3, none⟩ (.int .i64 0)).setCell ⟨g6, 4, none⟩ (.slice none 0 0)).heap.size from by simp [World.setCell])
 generalize (((((w3.setCell ⟨g6, 0, none⟩ (.int .i64 0)).setCell ⟨g6, 1, none⟩ (.int .i64 0)).setCell ⟨g6, 2, none⟩ (.int .i64 0)).setCell ⟨g6, 3, none⟩ (.int .i64 0)).setCell ⟨g6, 4, none⟩ (.slice none 0 0)) = w4 at HB BKg3 BKg6 SZ4 ⊢
 obtain ⟨hcg3_0, hcg3_1, hcg3_2, hcg3_3, hcg3_4, hfg3_0, hfg3_1, hfg3_2, hfg3_3, hfg3_4⟩ := cs5 BKg3.out; obtain ⟨hcg6_0, hcg6_1, hcg6_2, hcg6_3, hcg6_4, hfg6_0, hfg6_1, hfg6_2, hfg6_3, hfg6_4⟩ := cs5 BKg6.out
 refine bodyPost_ret (results_ct rfl _ _ g6 27 #[.int .i64 0, .int .i64 0, .int .i64 0, .int .i64 0, .slice none 0 0] (0, 0) _ rfl (by first | exact BKg6.out | (refine sO ?_; exact BKg6.out)) hu27 rfl (by kernel_rfl)) rfl ?_
 exact ⟨_, rfl, Kd.S_nil _ _ _ _ _, (by repeat (first | exact HB.out | apply below_alloc | apply pw_below_drewN | apply below_drew1))⟩
set_option maxHeartbeats 8000000 in
set_option maxRecDepth 100000 in
theorem Wiped_more (k0 : Nat) (a b c d : Int) (Am : Option Addr) (cm : Nat) (sl : List (List Int)) (n : Int) (w : World) (hCm : Kd.C (Kd.slice 5 (Kd.int .u8)) w Am sl.length sl) (hcm : sl.length ≤ cm) (hck : image_Check.f k0 a b c d sl = some 0) (hn : 0 ≤ n) (hm : wrap64 (a + b) ≤ n) : Calls Try.prog 16 #[.agg #[.int .i64 a, .int .i64 b, .int .i64 c, .int .i64 d, .slice Am sl.length cm], .int .i64 n] w fun e w' => ∃ v4_ : Value, e = .returned (.tuple #[.agg #[.int .i64 0, .int .i64 0, .int .i64 0, .int .i64 0, v4_], .int .i64 2]) ∧ Kd.S (Kd.slice 5 (Kd.int .u8)) 33 w' w.heap.size (fun _ => True) v4_ [] ∧ Below w.heap.size w w' := by
 have hu27 := Try.underlying27
 have hu24 := Try.underlying24
 have HB := Aside0.mk (Below.refl w.heap.size w)
 have HC := Aside0.mk hCm
 have HCM := Aside0.mk hcm
 have HCK := Aside0.mk hck
 clear hck
 have d3 : decide (n < 0) = false := decide_eq_false (by omega)
 have d4 : decide (wrap64 (a + b) ≤ n) = true := decide_eq_true hm
 clear hn hm
 clear hCm hcm
 go_enter Try.func16, Try.ntmps16
 have tok1 : True := trivial
 go_wp2_with (first | (have _ := tok1; (with_reducible refine gate_dst (N := 2) rfl ?_); refine box_event rfl (N := 2) rfl (cs := #[.int .i64 a, .int .i64 b, .int .i64 c, .int .i64 d, .slice Am sl.length cm]) (t := 27) (by go_simp; try rfl) ?_; intro g3 hg w1 hbox hb; have hs : Below w.heap.size w w1 := below_step (by repeat (first | exact Below.refl _ _ | apply below_alloc | apply pw_below_drewN | apply below_drew1)) hb; have SZ1 := Aside0.mk (show w.heap.size ≤ g3 ∧ g3 < w1.heap.size from ⟨by rw [hg]; exact (below_size (by repeat (first | exact Below.refl _ _ | apply below_alloc | apply pw_below_drewN | apply below_drew1))), blk_lt hbox⟩); replace HB := Aside0.mk (below_step HB.out hs); have BKg3 := Aside0.mk hbox; clear hb hbox hg hs; obtain ⟨hcg3_0, hcg3_1, hcg3_2, hcg3_3, hcg3_4, hfg3_0, hfg3_1, hfg3_2, hfg3_3, hfg3_4⟩ := cs5 BKg3.out; clear tok1; have tok2 : True := trivial) | (have _ := tok2; (with_reducible refine gate_dst (N := 4) rfl ?_); refine box_event rfl (N := 4) rfl (cs := #[.int .i64 0, .int .i64 0, .int .i64 0, .int .i64 0, .slice none 0 0]) (t := 27) (by go_simp; try rfl) ?_; intro g6 hg w2 hbox hb; have hs : Below w1.heap.size w1 w2 := below_step (by repeat (first | exact Below.refl _ _ | apply below_alloc | apply pw_below_drewN | apply below_drew1)) hb; have SZ2 := Aside0.mk (show w1.heap.size ≤ g6 ∧ g6 < w2.heap.size from ⟨by rw [hg]; exact (below_size (by repeat (first | exact Below.refl _ _ | apply below_alloc | apply pw_below_drewN | apply below_drew1))), blk_lt hbox⟩); (try clear hcg3_0 hfg3_0); (try clear hcg3_1 hfg3_1); (try clear hcg3_2 hfg3_2); (try clear hcg3_3 hfg3_3); (try clear hcg3_4 hfg3_4); replace BKg3 := Aside0.mk (blk_below BKg3.out hs); replace HB := Aside0.mk (below_step HB.out hs); have hneg3_g6 : g3 ≠ g6 := (by have := SZ2.out; have := SZ1.out; omega); have hneg6_g3 : g6 ≠ g3 := hneg3_g6.symm; have BKg6 := Aside0.mk hbox; clear hb hbox hg hs; obtain ⟨hcg3_0, hcg3_1, hcg3_2, hcg3_3, hcg3_4, hfg3_0, hfg3_1, hfg3_2, hfg3_3, hfg3_4⟩ := cs5 BKg3.out; obtain ⟨hcg6_0, hcg6_1, hcg6_2, hcg6_3, hcg6_4, hfg6_0, hfg6_1, hfg6_2, hfg6_3, hfg6_4⟩ := cs5 BKg6.out; clear tok2; have tok3 : True := trivial) | (have _ := tok3; go_at_call 17; (with_reducible refine (image_Check.calls k0 a b c d Am cm sl 0 _ ?s1 HCM.out HCK.out).mono ?_); (case s1 => exact Kd.C_below HC.out (by repeat (first | exact HB.out | apply below_alloc | apply pw_below_drewN | apply below_drew1))); rintro e w3 ⟨rfl, hb⟩; (try clear hcg3_0 hfg3_0); (try clear hcg3_1 hfg3_1); (try clear hcg3_2 hfg3_2); (try clear hcg3_3 hfg3_3); (try clear hcg3_4 hfg3_4); (try clear hcg6_0 hfg6_0); (try clear hcg6_1 hfg6_1); (try clear hcg6_2 hfg6_2); (try clear hcg6_3 hfg6_3); (try clear hcg6_4 hfg6_4); have hs : Below w2.heap.size w2 w3 := below_step (by repeat (first | exact Below.refl _ _ | apply below_alloc | apply pw_below_drewN | apply below_drew1)) hb; have hl : w2.heap.size ≤ _ := below_size (w := w2) (by repeat (first | exact Below.refl _ _ | apply below_alloc | apply pw_below_drewN | apply below_drew1)); have SZ3 := Aside0.mk (show w2.heap.size ≤ w3.heap.size from hs.size); replace BKg3 := Aside0.mk (blk_below BKg3.out hs); replace BKg6 := Aside0.mk (blk_below BKg6.out hs); replace HB := Aside0.mk (below_step HB.out hs); clear hb hs; (try clear hl); obtain ⟨hcg3_0, hcg3_1, hcg3_2, hcg3_3, hcg3_4, hfg3_0, hfg3_1, hfg3_2, hfg3_3, hfg3_4⟩ := cs5 BKg3.out; obtain ⟨hcg6_0, hcg6_1, hcg6_2, hcg6_3, hcg6_4, hfg6_0, hfg6_1, hfg6_2, hfg6_3, hfg6_4⟩ := cs5 BKg6.out; clear tok3))
 (try clear hcg3_0 hfg3_0)
 (try clear hcg3_1 hfg3_1)
 (try clear hcg3_2 hfg3_2)
 (try clear hcg3_3 hfg3_3)
 (try clear hcg3_4 hfg3_4)
 (try clear hcg6_0 hfg6_0)
 (try clear hcg6_1 hfg6_1)
 (try clear hcg6_2 hfg6_2)
 (try clear hcg6_3 hfg6_3)
 (try clear hcg6_4 hfg6_4)
 replace BKg3 := Aside0.mk (blk_far BKg3.out (p := ⟨g6, 0, none⟩) (by show _ ≠ _; have := SZ1.out; have := SZ2.out; have := SZ3.out; omega) (.int .i64 0))
 replace BKg6 := Aside0.mk (blk_put BKg6.out 0 (.int .i64 0) rfl)
 replace HB := Aside0.mk (below_set HB.out (by have := SZ1.out; have := SZ2.out; have := SZ3.out; omega : w.heap.size ≤ g6) (j := 0) (v := .int .i64 0))
 replace BKg3 := Aside0.mk (blk_far BKg3.out (p := ⟨g6, 1, none⟩) (by show _ ≠ _; have := SZ1.out; have := SZ2.out; have := SZ3.out; omega) (.int .i64 0))
 replace BKg6 := Aside0.mk (blk_put BKg6.out 1 (.int .i64 0) rfl)
 replace HB := Aside0.mk (below_set HB.out (by have := SZ1.out; have := SZ2.out; have := SZ3.out; omega : w.heap.size ≤ g6) (j := 1) (v := .int .i64 0))
 replace BKg3 := Aside0.mk (blk_far BKg3.out (p := ⟨g6, 2, none⟩) (by show _ ≠ _; have := SZ1.out; have := SZ2.out; have := SZ3.out; omega) (.int .i64 0))
 replace BKg6 := Aside0.mk (blk_put BKg6.out 2 (.int .i64 0) rfl)
 replace HB := Aside0.mk (below_set HB.out (by have := SZ1.out; have := SZ2.out; have := SZ3.out; omega : w.heap.size ≤ g6) (j := 2) (v := .int .i64 0))
 replace BKg3 := Aside0.mk (blk_far BKg3.out (p := ⟨g6, 3, none⟩) (by show _ ≠ _; have := SZ1.out; have := SZ2.out; have := SZ3.out; omega) (.int .i64 0))
 replace BKg6 := Aside0.mk (blk_put BKg6.out 3 (.int .i64 0) rfl)
 replace HB := Aside0.mk (below_set HB.out (by have := SZ1.out; have := SZ2.out; have := SZ3.out; omega : w.heap.size ≤ g6) (j := 3) (v := .int .i64 0))
 replace BKg3 := Aside0.mk (blk_far BKg3.out (p := ⟨g6, 4, none⟩) (by show _ ≠ _; have := SZ1.out; have := SZ2.out; have := SZ3.out; omega) (.slice none 0 0))
 replace BKg6 := Aside0.mk (blk_put BKg6.out 4 (.slice none 0 0) rfl)
 replace HB := Aside0.mk (below_set HB.out (by have := SZ1.out; have := SZ2.out; have := SZ3.out; omega : w.heap.size ≤ g6) (j := 4) (v := .slice none 0 0))
 have SZ4 := Aside0.mk (show w3.heap.size ≤ (((((w3.setCell ⟨g6, 0, none⟩ (.int .i64 0)).setCell ⟨g6, 1, none⟩ (.int .i64 0)).setCell ⟨g6, 2, none⟩ (.int .i64 0)).setCell ⟨g6, 3, none⟩ (.int .i64 0)).setCell ⟨g6, 4, none⟩ (.slice none 0 0)).heap.size from by simp [World.setCell])
 generalize (((((w3.setCell ⟨g6, 0, none⟩ (.int .i64 0)).setCell ⟨g6, 1, none⟩ (.int .i64 0)).setCell ⟨g6, 2, none⟩ (.int .i64 0)).setCell ⟨g6, 3, none⟩ (.int .i64 0)).setCell ⟨g6, 4, none⟩ (.slice none 0 0)) = w4 at HB BKg3 BKg6 SZ4 ⊢
 obtain ⟨hcg3_0, hcg3_1, hcg3_2, hcg3_3, hcg3_4, hfg3_0, hfg3_1, hfg3_2, hfg3_3, hfg3_4⟩ := cs5 BKg3.out; obtain ⟨hcg6_0, hcg6_1, hcg6_2, hcg6_3, hcg6_4, hfg6_0, hfg6_1, hfg6_2, hfg6_3, hfg6_4⟩ := cs5 BKg6.out
 refine bodyPost_ret (results_ct rfl _ _ g6 27 #[.int .i64 0, .int .i64 0, .int .i64 0, .int .i64 0, .slice none 0 0] (0, 0) _ rfl (by first | exact BKg6.out | (refine sO ?_; exact BKg6.out)) hu27 rfl (by kernel_rfl)) rfl ?_
 exact ⟨_, rfl, Kd.S_nil _ _ _ _ _, (by repeat (first | exact HB.out | apply below_alloc | apply pw_below_drewN | apply below_drew1))⟩
set_option maxHeartbeats 8000000 in
set_option maxRecDepth 100000 in
theorem Wiped_good (k0 : Nat) (a b c d : Int) (Am : Option Addr) (cm : Nat) (sl : List (List Int)) (n : Int) (w : World) (hCm : Kd.C (Kd.slice 5 (Kd.int .u8)) w Am sl.length sl) (hcm : sl.length ≤ cm) (hck : image_Check.f k0 a b c d sl = some 0) (hn : 0 ≤ n) (hm : ¬ wrap64 (a + b) ≤ n) (p q u v : Int) (s : List (List Int)) (ht : image_twin.f k0 a b c d sl = some (p, q, u, v, s)) (i j : Nat) (hi : wrap64 (n * wrap64 (2 * d)) = (i : Int)) (hj : wrap64 (wrap64 (n + 1) * wrap64 (2 * d)) = (j : Int)) (hij : i < j) (hjs : j ≤ s.length) : Calls Try.prog 16 #[.agg #[.int .i64 a, .int .i64 b, .int .i64 c, .int .i64 d, .slice Am sl.length cm], .int .i64 n] w fun e w' => ∃ v4_ : Value, e = .returned (.tuple #[.agg #[.int .i64 p, .int .i64 q, .int .i64 u, .int .i64 v, v4_], .int .i64 0]) ∧ Kd.S (Kd.slice 5 (Kd.int .u8)) 33 w' w.heap.size (fun _ => True) v4_ (wipeF [] s i (j - i)) ∧ Below w.heap.size w w' := by
 have hu27 := Try.underlying27
 have hu24 := Try.underlying24
 have HB := Aside0.mk (Below.refl w.heap.size w)
 have HC := Aside0.mk hCm
 have HCM := Aside0.mk hcm
 have HCK := Aside0.mk hck
 clear hck
 have HTW := Aside0.mk ht
 have HIJ := Aside0.mk hij
 have HJS := Aside0.mk hjs
 have d3 : decide (n < 0) = false := decide_eq_false (by clear hi hj; omega)
 have d4 : decide (wrap64 (a + b) ≤ n) = false := decide_eq_false hm
 have HI := Aside0.mk hi
 have HJ := Aside0.mk hj
 clear hn hm ht hij hjs hi hj
 clear hCm hcm
 go_enter Try.func16, Try.ntmps16
 have tok1 : True := trivial
 go_wp2_with (first | (have _ := tok1; (with_reducible refine gate_dst (N := 2) rfl ?_); refine box_event rfl (N := 2) rfl (cs := #[.int .i64 a, .int .i64 b, .int .i64 c, .int .i64 d, .slice Am sl.length cm]) (t := 27) (by go_simp; try rfl) ?_; intro g3 hg w1 hbox hb; have hs : Below w.heap.size w w1 := below_step (by repeat (first | exact Below.refl _ _ | apply below_alloc | apply pw_below_drewN | apply below_drew1)) hb; have SZ1 := Aside0.mk (show w.heap.size ≤ g3 ∧ g3 < w1.heap.size from ⟨by rw [hg]; exact (below_size (by repeat (first | exact Below.refl _ _ | apply below_alloc | apply pw_below_drewN | apply below_drew1))), blk_lt hbox⟩); replace HB := Aside0.mk (below_step HB.out hs); have BKg3 := Aside0.mk hbox; clear hb hbox hg hs; obtain ⟨hcg3_0, hcg3_1, hcg3_2, hcg3_3, hcg3_4, hfg3_0, hfg3_1, hfg3_2, hfg3_3, hfg3_4⟩ := cs5 BKg3.out; clear tok1; have tok2 : True := trivial) | (have _ := tok2; (with_reducible refine gate_dst (N := 4) rfl ?_); refine box_event rfl (N := 4) rfl (cs := #[.int .i64 0, .int .i64 0, .int .i64 0, .int .i64 0, .slice none 0 0]) (t := 27) (by go_simp; try rfl) ?_; intro g6 hg w2 hbox hb; have hs : Below w1.heap.size w1 w2 := below_step (by repeat (first | exact Below.refl _ _ | apply below_alloc | apply pw_below_drewN | apply below_drew1)) hb; have SZ2 := Aside0.mk (show w1.heap.size ≤ g6 ∧ g6 < w2.heap.size from ⟨by rw [hg]; exact (below_size (by repeat (first | exact Below.refl _ _ | apply below_alloc | apply pw_below_drewN | apply below_drew1))), blk_lt hbox⟩); (try clear hcg3_0 hfg3_0); (try clear hcg3_1 hfg3_1); (try clear hcg3_2 hfg3_2); (try clear hcg3_3 hfg3_3); (try clear hcg3_4 hfg3_4); replace BKg3 := Aside0.mk (blk_below BKg3.out hs); replace HB := Aside0.mk (below_step HB.out hs); have hneg3_g6 : g3 ≠ g6 := (by have := SZ2.out; have := SZ1.out; omega); have hneg6_g3 : g6 ≠ g3 := hneg3_g6.symm; have BKg6 := Aside0.mk hbox; clear hb hbox hg hs; obtain ⟨hcg3_0, hcg3_1, hcg3_2, hcg3_3, hcg3_4, hfg3_0, hfg3_1, hfg3_2, hfg3_3, hfg3_4⟩ := cs5 BKg3.out; obtain ⟨hcg6_0, hcg6_1, hcg6_2, hcg6_3, hcg6_4, hfg6_0, hfg6_1, hfg6_2, hfg6_3, hfg6_4⟩ := cs5 BKg6.out; clear tok2; have tok3 : True := trivial) | (have _ := tok3; go_at_call 17; (with_reducible refine (image_Check.calls k0 a b c d Am cm sl 0 _ ?s1 HCM.out HCK.out).mono ?_); (case s1 => exact Kd.C_below HC.out (by repeat (first | exact HB.out | apply below_alloc | apply pw_below_drewN | apply below_drew1))); rintro e w3 ⟨rfl, hb⟩; (try clear hcg3_0 hfg3_0); (try clear hcg3_1 hfg3_1); (try clear hcg3_2 hfg3_2); (try clear hcg3_3 hfg3_3); (try clear hcg3_4 hfg3_4); (try clear hcg6_0 hfg6_0); (try clear hcg6_1 hfg6_1); (try clear hcg6_2 hfg6_2); (try clear hcg6_3 hfg6_3); (try clear hcg6_4 hfg6_4); have hs : Below w2.heap.size w2 w3 := below_step (by repeat (first | exact Below.refl _ _ | apply below_alloc | apply pw_below_drewN | apply below_drew1)) hb; have hl : w2.heap.size ≤ _ := below_size (w := w2) (by repeat (first | exact Below.refl _ _ | apply below_alloc | apply pw_below_drewN | apply below_drew1)); have SZ3 := Aside0.mk (show w2.heap.size ≤ w3.heap.size from hs.size); replace BKg3 := Aside0.mk (blk_below BKg3.out hs); replace BKg6 := Aside0.mk (blk_below BKg6.out hs); replace HB := Aside0.mk (below_step HB.out hs); clear hb hs; (try clear hl); obtain ⟨hcg3_0, hcg3_1, hcg3_2, hcg3_3, hcg3_4, hfg3_0, hfg3_1, hfg3_2, hfg3_3, hfg3_4⟩ := cs5 BKg3.out; obtain ⟨hcg6_0, hcg6_1, hcg6_2, hcg6_3, hcg6_4, hfg6_0, hfg6_1, hfg6_2, hfg6_3, hfg6_4⟩ := cs5 BKg6.out; clear tok3; have tok4 : True := trivial) | (have _ := tok4; go_at_call 45; (with_reducible refine (image_twin.calls k0 a b c d Am cm sl p q u v s _ ?s1 HCM.out HTW.out).mono ?_); (case s1 => exact Kd.C_below HC.out (by repeat (first | exact HB.out | apply below_alloc | apply pw_below_drewN | apply below_drew1))); rintro e w4 ⟨vt, rfl, ho, hb⟩; (try clear hcg3_0 hfg3_0); (try clear hcg3_1 hfg3_1); (try clear hcg3_2 hfg3_2); (try clear hcg3_3 hfg3_3); (try clear hcg3_4 hfg3_4); (try clear hcg6_0 hfg6_0); (try clear hcg6_1 hfg6_1); (try clear hcg6_2 hfg6_2); (try clear hcg6_3 hfg6_3); (try clear hcg6_4 hfg6_4); have hs : Below w3.heap.size w3 w4 := below_step (by repeat (first | exact Below.refl _ _ | apply below_alloc | apply pw_below_drewN | apply below_drew1)) hb; have hl : w3.heap.size ≤ _ := below_size (w := w3) (by repeat (first | exact Below.refl _ _ | apply below_alloc | apply pw_below_drewN | apply below_drew1)); have SZ4 := Aside0.mk (show w3.heap.size ≤ w4.heap.size from hs.size); replace BKg3 := Aside0.mk (blk_below BKg3.out hs); replace BKg6 := Aside0.mk (blk_below BKg6.out hs); have HO := Aside0.mk (Kd.S_lower ho (below_size (by repeat (first | exact HB.out | apply below_alloc | apply pw_below_drewN | apply below_drew1)))); replace HB := Aside0.mk (below_step HB.out hs); clear ho; obtain ⟨g7, c9, e_, hb7, hl7, cells7, hh7⟩ := Kd.S_form HO.out (by have := HIJ.out; have := HJS.out; omega); subst e_; have HG7 := Aside0.mk (show w.heap.size ≤ g7 ∧ g7 < w4.heap.size from ⟨hb7, hl7⟩); clear hb7 hl7 hh7 cells7; have hcs := (Kd.S_reads' HO.out).2.1; have f1 : (j ≤ c9) = True := eq_true (by have := HJS.out; omega); have f2 : (i ≤ j) = True := eq_true (by have := HIJ.out; omega); have f3 : (j = i) = False := eq_false (by have := HIJ.out; omega); have hI := HI.out; have hJ := HJ.out; clear hcs; clear hb hs; (try clear hl); obtain ⟨hcg3_0, hcg3_1, hcg3_2, hcg3_3, hcg3_4, hfg3_0, hfg3_1, hfg3_2, hfg3_3, hfg3_4⟩ := cs5 BKg3.out; obtain ⟨hcg6_0, hcg6_1, hcg6_2, hcg6_3, hcg6_4, hfg6_0, hfg6_1, hfg6_2, hfg6_3, hfg6_4⟩ := cs5 BKg6.out; clear tok4; have tok5 : True := trivial) | (have _ := tok5; (with_reducible refine gate_dst (N := 7) rfl ?_); refine box_event rfl (N := 7) rfl (cs := #[.int .i64 0, .int .i64 0, .int .i64 0, .int .i64 0, .slice none 0 0]) (t := 27) (by go_simp; try rfl) ?_; intro g9 hg w5 hbox hb; have hs : Below w4.heap.size w4 w5 := below_step (by repeat (first | exact Below.refl _ _ | apply below_alloc | apply pw_below_drewN | apply below_drew1)) hb; have SZ5 := Aside0.mk (show w4.heap.size ≤ g9 ∧ g9 < w5.heap.size from ⟨by rw [hg]; exact (below_size (by repeat (first | exact Below.refl _ _ | apply below_alloc | apply pw_below_drewN | apply below_drew1))), blk_lt hbox⟩); (try clear hcg3_0 hfg3_0); (try clear hcg3_1 hfg3_1); (try clear hcg3_2 hfg3_2); (try clear hcg3_3 hfg3_3); (try clear hcg3_4 hfg3_4); (try clear hcg6_0 hfg6_0); (try clear hcg6_1 hfg6_1); (try clear hcg6_2 hfg6_2); (try clear hcg6_3 hfg6_3); (try clear hcg6_4 hfg6_4); replace BKg3 := Aside0.mk (blk_below BKg3.out hs); replace BKg6 := Aside0.mk (blk_below BKg6.out hs); replace HO := Aside0.mk (Kd.S_below HO.out hs); replace HB := Aside0.mk (below_step HB.out hs); have hneg3_g9 : g3 ≠ g9 := (by have := SZ5.out; have := SZ1.out; have := SZ2.out; have := SZ3.out; have := SZ4.out; omega); have hneg9_g3 : g9 ≠ g3 := hneg3_g9.symm; have hneg6_g9 : g6 ≠ g9 := (by have := SZ5.out; have := SZ1.out; have := SZ2.out; have := SZ3.out; have := SZ4.out; omega); have hneg9_g6 : g9 ≠ g6 := hneg6_g9.symm; have BKg9 := Aside0.mk hbox; clear hb hbox hg hs; obtain ⟨hcg3_0, hcg3_1, hcg3_2, hcg3_3, hcg3_4, hfg3_0, hfg3_1, hfg3_2, hfg3_3, hfg3_4⟩ := cs5 BKg3.out; obtain ⟨hcg6_0, hcg6_1, hcg6_2, hcg6_3, hcg6_4, hfg6_0, hfg6_1, hfg6_2, hfg6_3, hfg6_4⟩ := cs5 BKg6.out; obtain ⟨hcg9_0, hcg9_1, hcg9_2, hcg9_3, hcg9_4, hfg9_0, hfg9_1, hfg9_2, hfg9_3, hfg9_4⟩ := cs5 BKg9.out; clear tok5))
 (try clear hcg3_0 hfg3_0)
 (try clear hcg3_1 hfg3_1)
 (try clear hcg3_2 hfg3_2)
 (try clear hcg3_3 hfg3_3)
 (try clear hcg3_4 hfg3_4)
 (try clear hcg6_0 hfg6_0)
 (try clear hcg6_1 hfg6_1)
 (try clear hcg6_2 hfg6_2)
 (try clear hcg6_3 hfg6_3)
 (try clear hcg6_4 hfg6_4)
 (try clear hcg9_0 hfg9_0)
 (try clear hcg9_1 hfg9_1)
 (try clear hcg9_2 hfg9_2)
 (try clear hcg9_3 hfg9_3)
 (try clear hcg9_4 hfg9_4)
 replace BKg3 := Aside0.mk (blk_far BKg3.out (p := ⟨g9, 0, none⟩) (by show _ ≠ _; have := SZ1.out; have := SZ2.out; have := SZ3.out; have := SZ4.out; have := SZ5.out; omega) (.int .i64 p))
 replace BKg6 := Aside0.mk (blk_far BKg6.out (p := ⟨g9, 0, none⟩) (by show _ ≠ _; have := SZ1.out; have := SZ2.out; have := SZ3.out; have := SZ4.out; have := SZ5.out; omega) (.int .i64 p))
 replace HO := Aside0.mk (Kd.S_set HO.out BKg9.out (by decide) 0 (.int .i64 p))
 replace BKg9 := Aside0.mk (blk_put BKg9.out 0 (.int .i64 p) rfl)
 replace HB := Aside0.mk (below_set HB.out (by have := SZ1.out; have := SZ2.out; have := SZ3.out; have := SZ4.out; have := SZ5.out; omega : w.heap.size ≤ g9) (j := 0) (v := .int .i64 p))
 replace BKg3 := Aside0.mk (blk_far BKg3.out (p := ⟨g9, 1, none⟩) (by show _ ≠ _; have := SZ1.out; have := SZ2.out; have := SZ3.out; have := SZ4.out; have := SZ5.out; omega) (.int .i64 q))
 replace BKg6 := Aside0.mk (blk_far BKg6.out (p := ⟨g9, 1, none⟩) (by show _ ≠ _; have := SZ1.out; have := SZ2.out; have := SZ3.out; have := SZ4.out; have := SZ5.out; omega) (.int .i64 q))
 replace HO := Aside0.mk (Kd.S_set HO.out BKg9.out (by decide) 1 (.int .i64 q))
 replace BKg9 := Aside0.mk (blk_put BKg9.out 1 (.int .i64 q) rfl)
 replace HB := Aside0.mk (below_set HB.out (by have := SZ1.out; have := SZ2.out; have := SZ3.out; have := SZ4.out; have := SZ5.out; omega : w.heap.size ≤ g9) (j := 1) (v := .int .i64 q))
 replace BKg3 := Aside0.mk (blk_far BKg3.out (p := ⟨g9, 2, none⟩) (by show _ ≠ _; have := SZ1.out; have := SZ2.out; have := SZ3.out; have := SZ4.out; have := SZ5.out; omega) (.int .i64 u))
 replace BKg6 := Aside0.mk (blk_far BKg6.out (p := ⟨g9, 2, none⟩) (by show _ ≠ _; have := SZ1.out; have := SZ2.out; have := SZ3.out; have := SZ4.out; have := SZ5.out; omega) (.int .i64 u))
 replace HO := Aside0.mk (Kd.S_set HO.out BKg9.out (by decide) 2 (.int .i64 u))
 replace BKg9 := Aside0.mk (blk_put BKg9.out 2 (.int .i64 u) rfl)
 replace HB := Aside0.mk (below_set HB.out (by have := SZ1.out; have := SZ2.out; have := SZ3.out; have := SZ4.out; have := SZ5.out; omega : w.heap.size ≤ g9) (j := 2) (v := .int .i64 u))
 replace BKg3 := Aside0.mk (blk_far BKg3.out (p := ⟨g9, 3, none⟩) (by show _ ≠ _; have := SZ1.out; have := SZ2.out; have := SZ3.out; have := SZ4.out; have := SZ5.out; omega) (.int .i64 v))
 replace BKg6 := Aside0.mk (blk_far BKg6.out (p := ⟨g9, 3, none⟩) (by show _ ≠ _; have := SZ1.out; have := SZ2.out; have := SZ3.out; have := SZ4.out; have := SZ5.out; omega) (.int .i64 v))
 replace HO := Aside0.mk (Kd.S_set HO.out BKg9.out (by decide) 3 (.int .i64 v))
 replace BKg9 := Aside0.mk (blk_put BKg9.out 3 (.int .i64 v) rfl)
 replace HB := Aside0.mk (below_set HB.out (by have := SZ1.out; have := SZ2.out; have := SZ3.out; have := SZ4.out; have := SZ5.out; omega : w.heap.size ≤ g9) (j := 3) (v := .int .i64 v))
 replace BKg3 := Aside0.mk (blk_far BKg3.out (p := ⟨g9, 4, none⟩) (by show _ ≠ _; have := SZ1.out; have := SZ2.out; have := SZ3.out; have := SZ4.out; have := SZ5.out; omega) (.slice (some ⟨g7, 0, none⟩) s.length c9))
 replace BKg6 := Aside0.mk (blk_far BKg6.out (p := ⟨g9, 4, none⟩) (by show _ ≠ _; have := SZ1.out; have := SZ2.out; have := SZ3.out; have := SZ4.out; have := SZ5.out; omega) (.slice (some ⟨g7, 0, none⟩) s.length c9))
 replace HO := Aside0.mk (Kd.S_set HO.out BKg9.out (by decide) 4 (.slice (some ⟨g7, 0, none⟩) s.length c9))
 replace BKg9 := Aside0.mk (blk_put BKg9.out 4 (.slice (some ⟨g7, 0, none⟩) s.length c9) rfl)
 replace HB := Aside0.mk (below_set HB.out (by have := SZ1.out; have := SZ2.out; have := SZ3.out; have := SZ4.out; have := SZ5.out; omega : w.heap.size ≤ g9) (j := 4) (v := .slice (some ⟨g7, 0, none⟩) s.length c9))
 have SZ6 := Aside0.mk (show w5.heap.size ≤ (((((w5.setCell ⟨g9, 0, none⟩ (.int .i64 p)).setCell ⟨g9, 1, none⟩ (.int .i64 q)).setCell ⟨g9, 2, none⟩ (.int .i64 u)).setCell ⟨g9, 3, none⟩ (.int .i64 v)).setCell ⟨g9, 4, none⟩ (.slice (some ⟨g7, 0, none⟩) s.length c9)).heap.size from by simp [World.setCell])
 generalize (((((w5.setCell ⟨g9, 0, none⟩ (.int .i64 p)).setCell ⟨g9, 1, none⟩ (.int .i64 q)).setCell ⟨g9, 2, none⟩ (.int .i64 u)).setCell ⟨g9, 3, none⟩ (.int .i64 v)).setCell ⟨g9, 4, none⟩ (.slice (some ⟨g7, 0, none⟩) s.length c9)) = w6 at HB BKg3 BKg6 HO BKg9 SZ6 ⊢
 obtain ⟨hcg3_0, hcg3_1, hcg3_2, hcg3_3, hcg3_4, hfg3_0, hfg3_1, hfg3_2, hfg3_3, hfg3_4⟩ := cs5 BKg3.out; obtain ⟨hcg6_0, hcg6_1, hcg6_2, hcg6_3, hcg6_4, hfg6_0, hfg6_1, hfg6_2, hfg6_3, hfg6_4⟩ := cs5 BKg6.out; obtain ⟨hcg9_0, hcg9_1, hcg9_2, hcg9_3, hcg9_4, hfg9_0, hfg9_1, hfg9_2, hfg9_3, hfg9_4⟩ := cs5 BKg9.out
 have HOT := Aside0.mk HO.out
 have HGE6 := Aside0.mk (show w.heap.size ≤ g6 by clear hI hJ; have := SZ1.out; have := SZ2.out; omega)
 have hcl : ∀ ty, (Builtin.clear_ #[25] ty #[.slice (some ⟨g7, i, none⟩) (j - i) (j - i)]).run Try.prog w6 = .ok (.tuple #[]) (w6.setCells g7 i (List.replicate (j - i) (.slice none 0 0))) := fun ty =>
  Lib.run_clear_slice w6 25 33 ty (.slice none 0 0) Try.underlying25 zeroB rfl rfl g7 i (j - i) (j - i) (by clear hI hJ; have := HIJ.out; omega) (fun z hz => by
   obtain ⟨u0, hc, _⟩ := R_cell_row (Kd.S_R HOT.out) (i := i + z) (by clear hI hJ; have := HJS.out; omega)
   rw [hc]
   rfl) (fun z hz => by
   obtain ⟨u0, _, hf⟩ := R_cell_row (Kd.S_R HOT.out) (i := i + z) (by clear hI hJ; have := HJS.out; omega)
   exact hf)
 have HN6 : g6 ≠ g7 := fun e => Kd.S_ne HOT.out BKg6.out (by decide) (by rw [e]; rfl)
 have HN9 : g9 ≠ g7 := fun e => Kd.S_ne HOT.out BKg9.out (by decide) (by rw [e]; rfl)
 have K := R_wipe (W0 := w) (j - i) w6 s i HOT.out HB.out HG7.out.1 (by clear hI hJ; have := HIJ.out; have := HJS.out; omega)
 have BK6n := Aside0.mk ((K.2.2 g6 HN6).trans BKg6.out)
 have BK9n := Aside0.mk ((K.2.2 g9 HN9).trans BKg9.out)
 (try clear hcg3_0 hfg3_0)
 (try clear hcg3_1 hfg3_1)
 (try clear hcg3_2 hfg3_2)
 (try clear hcg3_3 hfg3_3)
 (try clear hcg3_4 hfg3_4)
 (try clear hcg6_0 hfg6_0)
 (try clear hcg6_1 hfg6_1)
 (try clear hcg6_2 hfg6_2)
 (try clear hcg6_3 hfg6_3)
 (try clear hcg6_4 hfg6_4)
 (try clear hcg9_0 hfg9_0)
 (try clear hcg9_1 hfg9_1)
 (try clear hcg9_2 hfg9_2)
 (try clear hcg9_3 hfg9_3)
 (try clear hcg9_4 hfg9_4)
 have hcg6_0 : (w6.setCells g7 i (List.replicate (j - i) (.slice none 0 0))).cell? ⟨g6, 0, none⟩ = some (.int .i64 0) := (blk_cell BK6n.out 0).trans rfl
 have hfg6_0 := blk_frozen BK6n.out 0
 have hcg6_1 : (w6.setCells g7 i (List.replicate (j - i) (.slice none 0 0))).cell? ⟨g6, 1, none⟩ = some (.int .i64 0) := (blk_cell BK6n.out 1).trans rfl
 have hfg6_1 := blk_frozen BK6n.out 1
 have hcg6_2 : (w6.setCells g7 i (List.replicate (j - i) (.slice none 0 0))).cell? ⟨g6, 2, none⟩ = some (.int .i64 0) := (blk_cell BK6n.out 2).trans rfl
 have hfg6_2 := blk_frozen BK6n.out 2
 have hcg6_3 : (w6.setCells g7 i (List.replicate (j - i) (.slice none 0 0))).cell? ⟨g6, 3, none⟩ = some (.int .i64 0) := (blk_cell BK6n.out 3).trans rfl
 have hfg6_3 := blk_frozen BK6n.out 3
 have hcg6_4 : (w6.setCells g7 i (List.replicate (j - i) (.slice none 0 0))).cell? ⟨g6, 4, none⟩ = some (.slice none 0 0) := (blk_cell BK6n.out 4).trans rfl
 have hfg6_4 := blk_frozen BK6n.out 4
 have hcg9_0 : (w6.setCells g7 i (List.replicate (j - i) (.slice none 0 0))).cell? ⟨g9, 0, none⟩ = some (.int .i64 p) := (blk_cell BK9n.out 0).trans rfl
 have hfg9_0 := blk_frozen BK9n.out 0
 have hcg9_1 : (w6.setCells g7 i (List.replicate (j - i) (.slice none 0 0))).cell? ⟨g9, 1, none⟩ = some (.int .i64 q) := (blk_cell BK9n.out 1).trans rfl
 have hfg9_1 := blk_frozen BK9n.out 1
 have hcg9_2 : (w6.setCells g7 i (List.replicate (j - i) (.slice none 0 0))).cell? ⟨g9, 2, none⟩ = some (.int .i64 u) := (blk_cell BK9n.out 2).trans rfl
 have hfg9_2 := blk_frozen BK9n.out 2
 have hcg9_3 : (w6.setCells g7 i (List.replicate (j - i) (.slice none 0 0))).cell? ⟨g9, 3, none⟩ = some (.int .i64 v) := (blk_cell BK9n.out 3).trans rfl
 have hfg9_3 := blk_frozen BK9n.out 3
 have hcg9_4 : (w6.setCells g7 i (List.replicate (j - i) (.slice none 0 0))).cell? ⟨g9, 4, none⟩ = some (.slice (some ⟨g7, 0, none⟩) s.length c9) := (blk_cell BK9n.out 4).trans rfl
 have hfg9_4 := blk_frozen BK9n.out 4
 go_wp2_with (simp only [hcl])
 (try clear hcg3_0 hfg3_0)
 (try clear hcg3_1 hfg3_1)
 (try clear hcg3_2 hfg3_2)
 (try clear hcg3_3 hfg3_3)
 (try clear hcg3_4 hfg3_4)
 (try clear hcg6_0 hfg6_0)
 (try clear hcg6_1 hfg6_1)
 (try clear hcg6_2 hfg6_2)
 (try clear hcg6_3 hfg6_3)
 (try clear hcg6_4 hfg6_4)
 (try clear hcg9_0 hfg9_0)
 (try clear hcg9_1 hfg9_1)
 (try clear hcg9_2 hfg9_2)
 (try clear hcg9_3 hfg9_3)
 (try clear hcg9_4 hfg9_4)
 have HOT2 := Aside0.mk K.1
 have HB2 := Aside0.mk K.2.1
 clear K hcl HB HOT
 have HOT := HOT2
 have HB := HB2
 clear HOT2 HB2 BKg6
 have BKg6 := BK6n
 clear BK6n BK9n BKg9
 generalize (w6.setCells g7 i (List.replicate (j - i) (.slice none 0 0))) = w8 at HOT HB BKg6 ⊢
 replace HOT := Aside0.mk (Kd.S_set HOT.out BKg6.out (by decide) 0 (.int .i64 p))
 replace BKg6 := Aside0.mk (blk_put BKg6.out 0 (.int .i64 p) rfl)
 replace HB := Aside0.mk (below_set HB.out HGE6.out (j := 0) (v := .int .i64 p))
 replace HOT := Aside0.mk (Kd.S_set HOT.out BKg6.out (by decide) 1 (.int .i64 q))
 replace BKg6 := Aside0.mk (blk_put BKg6.out 1 (.int .i64 q) rfl)
 replace HB := Aside0.mk (below_set HB.out HGE6.out (j := 1) (v := .int .i64 q))
 replace HOT := Aside0.mk (Kd.S_set HOT.out BKg6.out (by decide) 2 (.int .i64 u))
 replace BKg6 := Aside0.mk (blk_put BKg6.out 2 (.int .i64 u) rfl)
 replace HB := Aside0.mk (below_set HB.out HGE6.out (j := 2) (v := .int .i64 u))
 replace HOT := Aside0.mk (Kd.S_set HOT.out BKg6.out (by decide) 3 (.int .i64 v))
 replace BKg6 := Aside0.mk (blk_put BKg6.out 3 (.int .i64 v) rfl)
 replace HB := Aside0.mk (below_set HB.out HGE6.out (j := 3) (v := .int .i64 v))
 replace HOT := Aside0.mk (Kd.S_set HOT.out BKg6.out (by decide) 4 (.slice (some ⟨g7, 0, none⟩) s.length c9))
 replace BKg6 := Aside0.mk (blk_put BKg6.out 4 (.slice (some ⟨g7, 0, none⟩) s.length c9) rfl)
 replace HB := Aside0.mk (below_set HB.out HGE6.out (j := 4) (v := .slice (some ⟨g7, 0, none⟩) s.length c9))
 generalize (((((w8.setCell ⟨g6, 0, none⟩ (.int .i64 p)).setCell ⟨g6, 1, none⟩ (.int .i64 q)).setCell ⟨g6, 2, none⟩ (.int .i64 u)).setCell ⟨g6, 3, none⟩ (.int .i64 v)).setCell ⟨g6, 4, none⟩ (.slice (some ⟨g7, 0, none⟩) s.length c9)) = w9 at HOT BKg6 HB ⊢
 refine bodyPost_ret (results_ct rfl _ _ g6 27 #[.int .i64 p, .int .i64 q, .int .i64 u, .int .i64 v, .slice (some ⟨g7, 0, none⟩) s.length c9] (0, 0) _ rfl BKg6.out hu27 rfl (by kernel_rfl)) rfl ?_
 exact ⟨_, rfl, Kd.S_mono HOT.out (fun _ _ => trivial), HB.out⟩
theorem image_Wiped.calls (k : Nat) (a0_0 : Int) (a0_1 : Int) (a0_2 : Int) (a0_3 : Int) (A0_4 : Option Addr) (c0_4 : Nat) (l0_4 : List (List Int)) (a1 : Int) (r1 : Int) (r2 : Int) (r3 : Int) (r4 : Int) (r5 : List (List Int)) (r6 : Int) (w : World) (hr0_4 : Kd.C (Kd.slice 5 (Kd.int .u8)) w A0_4 l0_4.length l0_4) (hc0_4 : l0_4.length ≤ c0_4) (h : image_Wiped.f k a0_0 a0_1 a0_2 a0_3 l0_4 a1 = some (r1, r2, r3, r4, r5, r6)) :
  Calls Try.prog 16 #[.agg #[.int .i64 a0_0, .int .i64 a0_1, .int .i64 a0_2, .int .i64 a0_3, .slice A0_4 l0_4.length c0_4], .int .i64 a1] w fun e w' => ∃ v4_ : Value, e = .returned (.tuple #[.agg #[.int .i64 r1, .int .i64 r2, .int .i64 r3, .int .i64 r4, v4_], .int .i64 r6]) ∧ Kd.S (Kd.slice 5 (Kd.int .u8)) 33 w' w.heap.size (fun _ => True) v4_ r5 ∧ Below w.heap.size w w' := by
 unfold image_Wiped.f at h
 obtain ⟨e, he, h⟩ := Option.bind_eq_some_iff.mp h
 by_cases h0 : e = 0
 ·
  subst h0
  rw [if_pos rfl] at h
  by_cases h3 : a1 < 0 ∨ wrap64 (a0_0 + a0_1) ≤ a1
  ·
   rw [if_pos h3] at h
   injection h with h
   simp only [Prod.mk.injEq] at h
   obtain ⟨rfl, rfl, rfl, rfl, rfl, rfl⟩ := h
   by_cases h4 : a1 < 0
   ·
    exact Wiped_less k a0_0 a0_1 a0_2 a0_3 A0_4 c0_4 l0_4 a1 w hr0_4 hc0_4 he h4
   ·
    exact Wiped_more k a0_0 a0_1 a0_2 a0_3 A0_4 c0_4 l0_4 a1 w hr0_4 hc0_4 he (by omega) (h3.resolve_left h4)
  ·
   rw [if_neg h3] at h
   obtain ⟨⟨p, q, u, v, s⟩, ht, h⟩ := Option.bind_eq_some_iff.mp h
   by_cases h5 : 0 ≤ image_Wiped.lo a0_3 a1 ∧ image_Wiped.lo a0_3 a1 < image_Wiped.hi a0_3 a1 ∧ image_Wiped.hi a0_3 a1 ≤ (s.length : Int)
   ·
    rw [if_pos h5] at h
    injection h with h
    simp only [Prod.mk.injEq] at h
    obtain ⟨rfl, rfl, rfl, rfl, rfl, rfl⟩ := h
    obtain ⟨i, hi⟩ : ∃ i : Nat, image_Wiped.lo a0_3 a1 = (i : Int) := ⟨(image_Wiped.lo a0_3 a1).toNat, by omega⟩
    obtain ⟨j, hj⟩ : ∃ j : Nat, image_Wiped.hi a0_3 a1 = (j : Int) := ⟨(image_Wiped.hi a0_3 a1).toNat, by omega⟩
    rw [hi, hj] at h5
    have e1 : (image_Wiped.lo a0_3 a1).toNat = i := by rw [hi, Int.toNat_natCast]
    have e2 : (image_Wiped.hi a0_3 a1 - image_Wiped.lo a0_3 a1).toNat = j - i := by rw [hi, hj]; omega
    rw [e1, e2]
    exact Wiped_good k a0_0 a0_1 a0_2 a0_3 A0_4 c0_4 l0_4 a1 w hr0_4 hc0_4 he (by omega) (fun h => h3 (.inr h)) p q u v s ht i j hi hj (by omega) (by omega)
   ·
    rw [if_neg h5] at h
    cases h
 ·
  rw [if_neg h0] at h
  injection h with h
  simp only [Prod.mk.injEq] at h
  obtain ⟨rfl, rfl, rfl, rfl, rfl, rfl⟩ := h
  exact Wiped_check k a0_0 a0_1 a0_2 a0_3 A0_4 c0_4 l0_4 a1 w hr0_4 hc0_4 _ he h0

end Go.Proofs.Ytcnmocbiekfpbaa.P

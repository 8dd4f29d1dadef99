-- Written by a program of this session, after the kit's print.
import Derived.Test.YtcnmocbiekfpbaaP0Sep
import Derived.Test.YtcnmocbiekfpbaaP0Short
import Derived.Test.YtcnmocbiekfpbaaPx0
import Derived.Test.YtcnmocbiekfpbaaPx4
namespace Go.Proofs.Ytcnmocbiekfpbaa.P
open Go.RowKit Go.Proofs.YtcnmocbiekfpbaaW.PrintWords Go.Proofs.YtcnmocbiekfpbaaW.PrintLast Go.Proofs.YtcnmocbiekfpbaaW.PrintMore
attribute [local go_sem] max2_int min2_int max_two min_two max_three min_three max_four min_four   -- for this text's walks alone
set_option linter.unusedVariables false
set_option linter.unusedSimpArgs false

theorem infoRow : (Try.prog.info? 59).map (fun i => (i.zero, i.size, i.bytes)) = some (some (.agg #[.slice none 0 0, .slice none 0 0]), 2, 48) := by kernel_rfl
/-- Where a row's slots begin on a drive. -/
def rowAt (d n : Int) (i : Nat) : Int := wrap64 (wrap64 (wrap64 ((i : Int) * d) + n) * 2)
def rowOf (at_ : Nat → Nat) (sl : List (List Int)) (k : Nat) : List S59 := (List.range k).map fun i => ⟨sl.getD (at_ i) [], sl.getD (at_ i + 1) []⟩
theorem rowOf_succ (at_ : Nat → Nat) (sl : List (List Int)) (k : Nat) : rowOf at_ sl (k + 1) = rowOf at_ sl k ++ [⟨sl.getD (at_ k) [], sl.getD (at_ k + 1) []⟩] := by
 unfold rowOf
 rw [List.range_succ, List.map_append]
 rfl
theorem rowOf_len (at_ : Nat → Nat) (sl : List (List Int)) (k : Nat) : (rowOf at_ sl k).length = k := by simp [rowOf]
theorem elem_getD9 {l : List (List Int)} {k : Nat} {x : List Int} (h : l.take (k + 1) = l.take k ++ [x]) (hk : k < l.length) : l.getD k [] = x := by
 have h1 := List.take_succ_eq_append_getElem hk
 rw [h] at h1
 have h2 := List.append_cancel_left h1
 injection h2 with h3 _
 rw [h3, List.getD_eq_getElem?_getD, List.getElem?_eq_getElem hk]
 rfl
theorem wrap_two (p : Nat) (h : p ≤ 1000000) : wrap64 ((p : Int) + 2) = ((p + 2 : Nat) : Int) := by
 unfold wrap64
 omega
set_option maxHeartbeats 8000000 in
set_option maxRecDepth 100000 in
theorem Row_check (k0 : Nat) (a b c d : Int) (Am : Option Addr) (cm : Nat) (sl : List (List Int)) (n : Int) (w : World) (hCm : Kd.C (Kd.slice 5 (Kd.int .u8)) w Am sl.length sl) (hcm : sl.length ≤ cm) (e0 : Int) (hck : image_Check.f k0 a b c d sl = some e0) (he : e0 ≠ 0) : Calls Try.prog 15 #[.agg #[.int .i64 a, .int .i64 b, .int .i64 c, .int .i64 d, .slice Am sl.length cm], .int .i64 n] w fun e w' => e = .returned (.tuple #[.slice none 0 0, .int .i64 e0]) ∧ Below w.heap.size w w' := by
 have hu27 := Try.underlying27
 have hu24 := Try.underlying24
 have HB := Aside0.mk (Below.refl w.heap.size w)
 have HC := Aside0.mk hCm
 have HCM := Aside0.mk hcm
 have HCK := Aside0.mk hck
 have d1 : (e0 == 0) = false := beq_false_of_ne he
 have d2 : (e0 = 0) = False := eq_false he
 clear hck he
 clear hCm hcm
 go_enter Try.func15, Try.ntmps15
 have tok1 : True := trivial
 go_wp2_with (first | (have _ := tok1; (with_reducible refine gate_dst (N := 2) rfl ?_); refine box_event rfl (N := 2) rfl (cs := #[.int .i64 a, .int .i64 b, .int .i64 c, .int .i64 d, .slice Am sl.length cm]) (t := 27) (by go_simp; try rfl) ?_; intro g3 hg w1 hbox hb; have hs : Below w.heap.size w w1 := below_step (by repeat (first | exact Below.refl _ _ | apply below_alloc | apply pw_below_drewN | apply below_drew1)) hb; have SZ1 := Aside0.mk (show w.heap.size ≤ g3 ∧ g3 < w1.heap.size from ⟨by rw [hg]; exact (below_size (by repeat (first | exact Below.refl _ _ | apply below_alloc | apply pw_below_drewN | apply below_drew1))), blk_lt hbox⟩); replace HB := Aside0.mk (below_step HB.out hs); have BKg3 := Aside0.mk hbox; clear hb hbox hg hs; obtain ⟨hcg3_0, hcg3_1, hcg3_2, hcg3_3, hcg3_4, hfg3_0, hfg3_1, hfg3_2, hfg3_3, hfg3_4⟩ := cs5 BKg3.out; clear tok1; have tok2 : True := trivial) | (have _ := tok2; go_at_call 17; (with_reducible refine (image_Check.calls k0 a b c d Am cm sl e0 _ ?s1 HCM.out HCK.out).mono ?_); (case s1 => exact Kd.C_below HC.out (by repeat (first | exact HB.out | apply below_alloc | apply pw_below_drewN | apply below_drew1))); rintro e w2 ⟨rfl, hb⟩; (try clear hcg3_0 hfg3_0); (try clear hcg3_1 hfg3_1); (try clear hcg3_2 hfg3_2); (try clear hcg3_3 hfg3_3); (try clear hcg3_4 hfg3_4); have hs : Below w1.heap.size w1 w2 := below_step (by repeat (first | exact Below.refl _ _ | apply below_alloc | apply pw_below_drewN | apply below_drew1)) hb; have hl : w1.heap.size ≤ _ := below_size (w := w1) (by repeat (first | exact Below.refl _ _ | apply below_alloc | apply pw_below_drewN | apply below_drew1)); have SZ2 := Aside0.mk (show w1.heap.size ≤ w2.heap.size from hs.size); replace BKg3 := Aside0.mk (blk_below BKg3.out hs); replace HB := Aside0.mk (below_step HB.out hs); clear hb hs; (try clear hl); obtain ⟨hcg3_0, hcg3_1, hcg3_2, hcg3_3, hcg3_4, hfg3_0, hfg3_1, hfg3_2, hfg3_3, hfg3_4⟩ := cs5 BKg3.out; clear tok2))
 go_ret2
 exact ⟨rfl, HB.out⟩
set_option maxHeartbeats 8000000 in
set_option maxRecDepth 100000 in
theorem Row_less (k0 : Nat) (a b c d : Int) (Am : Option Addr) (cm : Nat) (sl : List (List Int)) (n : Int) (w : World) (hCm : Kd.C (Kd.slice 5 (Kd.int .u8)) w Am sl.length sl) (hcm : sl.length ≤ cm) (hck : image_Check.f k0 a b c d sl = some 0) (hn : n < 0) : Calls Try.prog 15 #[.agg #[.int .i64 a, .int .i64 b, .int .i64 c, .int .i64 d, .slice Am sl.length cm], .int .i64 n] w fun e w' => e = .returned (.tuple #[.slice none 0 0, .int .i64 2]) ∧ Below w.heap.size w w' := by
 have hu27 := Try.underlying27
 have hu24 := Try.underlying24
 have HB := Aside0.mk (Below.refl w.heap.size w)
 have HC := Aside0.mk hCm
 have HCM := Aside0.mk hcm
 have HCK := Aside0.mk hck
 clear hck
 have d3 : decide (n < 0) = true := decide_eq_true hn
 clear hn
 clear hCm hcm
 go_enter Try.func15, Try.ntmps15
 have tok1 : True := trivial
 go_wp2_with (first | (have _ := tok1; (with_reducible refine gate_dst (N := 2) rfl ?_); refine box_event rfl (N := 2) rfl (cs := #[.int .i64 a, .int .i64 b, .int .i64 c, .int .i64 d, .slice Am sl.length cm]) (t := 27) (by go_simp; try rfl) ?_; intro g3 hg w1 hbox hb; have hs : Below w.heap.size w w1 := below_step (by repeat (first | exact Below.refl _ _ | apply below_alloc | apply pw_below_drewN | apply below_drew1)) hb; have SZ1 := Aside0.mk (show w.heap.size ≤ g3 ∧ g3 < w1.heap.size from ⟨by rw [hg]; exact (below_size (by repeat (first | exact Below.refl _ _ | apply below_alloc | apply pw_below_drewN | apply below_drew1))), blk_lt hbox⟩); replace HB := Aside0.mk (below_step HB.out hs); have BKg3 := Aside0.mk hbox; clear hb hbox hg hs; obtain ⟨hcg3_0, hcg3_1, hcg3_2, hcg3_3, hcg3_4, hfg3_0, hfg3_1, hfg3_2, hfg3_3, hfg3_4⟩ := cs5 BKg3.out; clear tok1; have tok2 : True := trivial) | (have _ := tok2; go_at_call 17; (with_reducible refine (image_Check.calls k0 a b c d Am cm sl 0 _ ?s1 HCM.out HCK.out).mono ?_); (case s1 => exact Kd.C_below HC.out (by repeat (first | exact HB.out | apply below_alloc | apply pw_below_drewN | apply below_drew1))); rintro e w2 ⟨rfl, hb⟩; (try clear hcg3_0 hfg3_0); (try clear hcg3_1 hfg3_1); (try clear hcg3_2 hfg3_2); (try clear hcg3_3 hfg3_3); (try clear hcg3_4 hfg3_4); have hs : Below w1.heap.size w1 w2 := below_step (by repeat (first | exact Below.refl _ _ | apply below_alloc | apply pw_below_drewN | apply below_drew1)) hb; have hl : w1.heap.size ≤ _ := below_size (w := w1) (by repeat (first | exact Below.refl _ _ | apply below_alloc | apply pw_below_drewN | apply below_drew1)); have SZ2 := Aside0.mk (show w1.heap.size ≤ w2.heap.size from hs.size); replace BKg3 := Aside0.mk (blk_below BKg3.out hs); replace HB := Aside0.mk (below_step HB.out hs); clear hb hs; (try clear hl); obtain ⟨hcg3_0, hcg3_1, hcg3_2, hcg3_3, hcg3_4, hfg3_0, hfg3_1, hfg3_2, hfg3_3, hfg3_4⟩ := cs5 BKg3.out; clear tok2))
 go_ret2
 exact ⟨rfl, HB.out⟩
set_option maxHeartbeats 8000000 in
set_option maxRecDepth 100000 in
theorem Row_more (k0 : Nat) (a b c d : Int) (Am : Option Addr) (cm : Nat) (sl : List (List Int)) (n : Int) (w : World) (hCm : Kd.C (Kd.slice 5 (Kd.int .u8)) w Am sl.length sl) (hcm : sl.length ≤ cm) (hck : image_Check.f k0 a b c d sl = some 0) (hn : 0 ≤ n) (hm : d ≤ n) : Calls Try.prog 15 #[.agg #[.int .i64 a, .int .i64 b, .int .i64 c, .int .i64 d, .slice Am sl.length cm], .int .i64 n] w fun e w' => e = .returned (.tuple #[.slice none 0 0, .int .i64 2]) ∧ Below w.heap.size w w' := by
 have hu27 := Try.underlying27
 have hu24 := Try.underlying24
 have HB := Aside0.mk (Below.refl w.heap.size w)
 have HC := Aside0.mk hCm
 have HCM := Aside0.mk hcm
 have HCK := Aside0.mk hck
 clear hck
 have d3 : decide (n < 0) = false := decide_eq_false (by omega)
 have d4 : decide (d ≤ n) = true := decide_eq_true hm
 clear hn hm
 clear hCm hcm
 go_enter Try.func15, Try.ntmps15
 have tok1 : True := trivial
 go_wp2_with (first | (have _ := tok1; (with_reducible refine gate_dst (N := 2) rfl ?_); refine box_event rfl (N := 2) rfl (cs := #[.int .i64 a, .int .i64 b, .int .i64 c, .int .i64 d, .slice Am sl.length cm]) (t := 27) (by go_simp; try rfl) ?_; intro g3 hg w1 hbox hb; have hs : Below w.heap.size w w1 := below_step (by repeat (first | exact Below.refl _ _ | apply below_alloc | apply pw_below_drewN | apply below_drew1)) hb; have SZ1 := Aside0.mk (show w.heap.size ≤ g3 ∧ g3 < w1.heap.size from ⟨by rw [hg]; exact (below_size (by repeat (first | exact Below.refl _ _ | apply below_alloc | apply pw_below_drewN | apply below_drew1))), blk_lt hbox⟩); replace HB := Aside0.mk (below_step HB.out hs); have BKg3 := Aside0.mk hbox; clear hb hbox hg hs; obtain ⟨hcg3_0, hcg3_1, hcg3_2, hcg3_3, hcg3_4, hfg3_0, hfg3_1, hfg3_2, hfg3_3, hfg3_4⟩ := cs5 BKg3.out; clear tok1; have tok2 : True := trivial) | (have _ := tok2; go_at_call 17; (with_reducible refine (image_Check.calls k0 a b c d Am cm sl 0 _ ?s1 HCM.out HCK.out).mono ?_); (case s1 => exact Kd.C_below HC.out (by repeat (first | exact HB.out | apply below_alloc | apply pw_below_drewN | apply below_drew1))); rintro e w2 ⟨rfl, hb⟩; (try clear hcg3_0 hfg3_0); (try clear hcg3_1 hfg3_1); (try clear hcg3_2 hfg3_2); (try clear hcg3_3 hfg3_3); (try clear hcg3_4 hfg3_4); have hs : Below w1.heap.size w1 w2 := below_step (by repeat (first | exact Below.refl _ _ | apply below_alloc | apply pw_below_drewN | apply below_drew1)) hb; have hl : w1.heap.size ≤ _ := below_size (w := w1) (by repeat (first | exact Below.refl _ _ | apply below_alloc | apply pw_below_drewN | apply below_drew1)); have SZ2 := Aside0.mk (show w1.heap.size ≤ w2.heap.size from hs.size); replace BKg3 := Aside0.mk (blk_below BKg3.out hs); replace HB := Aside0.mk (below_step HB.out hs); clear hb hs; (try clear hl); obtain ⟨hcg3_0, hcg3_1, hcg3_2, hcg3_3, hcg3_4, hfg3_0, hfg3_1, hfg3_2, hfg3_3, hfg3_4⟩ := cs5 BKg3.out; clear tok2))
 go_ret2
 exact ⟨rfl, HB.out⟩
set_option maxHeartbeats 8000000 in
set_option maxRecDepth 100000 in
theorem Row_goodS (k0 : Nat) (a b c d : Int) (Am : Option Addr) (cm : Nat) (sl : List (List Int)) (n : Int) (w : World) (hCm : Kd.C (Kd.slice 5 (Kd.int .u8)) w Am sl.length sl) (hcm : sl.length ≤ cm) (hck : image_Check.f k0 a b c d sl = some 0) (hn : 0 ≤ n) (hm : n < d) (m : Nat) (hN : wrap64 (a + b) = (m : Int)) (hm2 : m ≤ 10000) (at_ : Nat → Nat) (hat : ∀ i, i < m → rowAt d n i = (at_ i : Int) ∧ at_ i + 2 ≤ sl.length) (hsl : sl.length ≤ 100000) (hel : ∀ x ∈ sl, x.length ≤ 1000000) : Calls Try.prog 15 #[.agg #[.int .i64 a, .int .i64 b, .int .i64 c, .int .i64 d, .slice Am sl.length cm], .int .i64 n] w fun e w' => ∃ v : Value, e = .returned (.tuple #[v, .int .i64 0]) ∧ Kd.S kp59 59 w' w.heap.size (fun _ => True) v (rowOf at_ sl m) ∧ Below w.heap.size w w' := by
 have hu27 := Try.underlying27
 have hu24 := Try.underlying24
 have HB := Aside0.mk (Below.refl w.heap.size w)
 have HC := Aside0.mk hCm
 have HCM := Aside0.mk hcm
 have HCK := Aside0.mk hck
 clear hck
 have d3 : decide (n < 0) = false := decide_eq_false (by clear hN; omega)
 have d4 : decide (d ≤ n) = false := decide_eq_false (by clear hN; omega)
 have HN := Aside0.mk hN
 have HM := Aside0.mk hm2
 have HAT := Aside0.mk hat
 have HSL := Aside0.mk hsl
 have HEL := Aside0.mk hel
 clear hn hm hm2 hat hsl hel
 clear hCm hcm
 go_enter Try.func15, Try.ntmps15
 have tok1 : True := trivial
 go_wp2_with (first | (have _ := tok1; (with_reducible refine gate_dst (N := 2) rfl ?_); refine box_event rfl (N := 2) rfl (cs := #[.int .i64 a, .int .i64 b, .int .i64 c, .int .i64 d, .slice Am sl.length cm]) (t := 27) (by go_simp; try rfl) ?_; intro g3 hg w1 hbox hb; have hs : Below w.heap.size w w1 := below_step (by repeat (first | exact Below.refl _ _ | apply below_alloc | apply pw_below_drewN | apply below_drew1)) hb; have SZ1 := Aside0.mk (show w.heap.size ≤ g3 ∧ g3 < w1.heap.size from ⟨by rw [hg]; exact (below_size (by repeat (first | exact Below.refl _ _ | apply below_alloc | apply pw_below_drewN | apply below_drew1))), blk_lt hbox⟩); replace HB := Aside0.mk (below_step HB.out hs); have BKg3 := Aside0.mk hbox; clear hb hbox hg hs; obtain ⟨hcg3_0, hcg3_1, hcg3_2, hcg3_3, hcg3_4, hfg3_0, hfg3_1, hfg3_2, hfg3_3, hfg3_4⟩ := cs5 BKg3.out; clear tok1; have tok2 : True := trivial) | (have _ := tok2; go_at_call 17; (with_reducible refine (image_Check.calls k0 a b c d Am cm sl 0 _ ?s1 HCM.out HCK.out).mono ?_); (case s1 => exact Kd.C_below HC.out (by repeat (first | exact HB.out | apply below_alloc | apply pw_below_drewN | apply below_drew1))); rintro e w2 ⟨rfl, hb⟩; (try clear hcg3_0 hfg3_0); (try clear hcg3_1 hfg3_1); (try clear hcg3_2 hfg3_2); (try clear hcg3_3 hfg3_3); (try clear hcg3_4 hfg3_4); have hs : Below w1.heap.size w1 w2 := below_step (by repeat (first | exact Below.refl _ _ | apply below_alloc | apply pw_below_drewN | apply below_drew1)) hb; have hl : w1.heap.size ≤ _ := below_size (w := w1) (by repeat (first | exact Below.refl _ _ | apply below_alloc | apply pw_below_drewN | apply below_drew1)); have SZ2 := Aside0.mk (show w1.heap.size ≤ w2.heap.size from hs.size); replace BKg3 := Aside0.mk (blk_below BKg3.out hs); replace HB := Aside0.mk (below_step HB.out hs); clear hb hs; (try clear hl); obtain ⟨hcg3_0, hcg3_1, hcg3_2, hcg3_3, hcg3_4, hfg3_0, hfg3_1, hfg3_2, hfg3_3, hfg3_4⟩ := cs5 BKg3.out; clear tok2))
 (try clear hcg3_0 hfg3_0)
 (try clear hcg3_1 hfg3_1)
 (try clear hcg3_2 hfg3_2)
 (try clear hcg3_3 hfg3_3)
 (try clear hcg3_4 hfg3_4)
 clear hN
 have HGE := Aside0.mk (show w.heap.size ≤ g3 by have := SZ1.out; omega)
 go_loopg [7, 32] m (fun kq v7 v32 wr => ∃ (k : Nat) (vv : Value), v7 = vv ∧ v32 = .int .i64 (k : Int) ∧ Aside0 (k ≤ m ∧ m - k ≤ kq) ∧ Aside0 (wr.heap[g3]? = some (.cells #[.int .i64 a, .int .i64 b, .int .i64 c, .int .i64 d, .slice Am sl.length cm] 27 (0, 0))) ∧ Aside0 (Kd.S kp59 59 wr w.heap.size (fun _ => True) vv (rowOf at_ sl k)) ∧ Aside0 (Below w.heap.size w wr))
 case atStart => exact ⟨0, _, rfl, rfl, Aside0.mk ⟨by omega, by omega⟩, Aside0.mk (by first | exact BKg3.out | (refine sO ?_; exact BKg3.out)), Aside0.mk (Kd.S_nil _ _ _ _ _), Aside0.mk (by repeat (first | exact HB.out | apply below_alloc | apply pw_below_drewN | apply below_drew1))⟩
 case round =>
  clear BKg3 HB
  obtain ⟨k, vv, ev, rfl, AX, BKg3, HO, HB⟩ := hrel
  have ev_ := ev.symm
  subst ev_
  by_cases hlt : k < m
  rotate_left
  ·
   have b1 : decide ((k : Int) < wrap64 (a + b)) = false := by rw [HN.out]; exact decide_eq_false (by omega)
   have b2 : decide (k < m) = false := decide_eq_false hlt
   have e : k = m := by
    have := AX.out
    omega
   subst e
   clear hlt
   go_wp2
   go_ret2
   exact ⟨_, rfl, HO.out, HB.out⟩
  have hat := HAT.out k hlt
  obtain ⟨p, hp⟩ : ∃ p : Nat, p = at_ k := ⟨_, rfl⟩
  rw [← hp] at hat
  have hp1 : p < sl.length := by omega
  have hp2 : p + 1 < sl.length := by omega
  obtain ⟨ad, x, eA, hfx, hxm, Bx, cx, hcx, hlex, hCx⟩ := bytes_elem HC.out p hp1
  obtain ⟨ad2, y, eA2, hfy, hym, By, cy, hcy, hley, hCy⟩ := bytes_elem HC.out (p + 1) hp2
  subst eA
  obtain rfl : ad = ad2 := by injection eA2
  clear eA2
  have HPX := Aside0.mk (elem_getD9 hfx hp1)
  have HPY := Aside0.mk (elem_getD9 hfy hp2)
  have HPA := Aside0.mk hp
  have ACx := Aside0.mk (show image_taken.f x = some x by unfold image_taken.f; rw [if_pos (Nat.le_trans (HEL.out x hxm) (by decide))])
  have ACy := Aside0.mk (show image_taken.f y = some y by unfold image_taken.f; rw [if_pos (Nat.le_trans (HEL.out y hym) (by decide))])
  have ALx := Aside0.mk hlex
  have ALy := Aside0.mk hley
  have HCx := Aside0.mk hCx
  have HCy := Aside0.mk hCy
  have HK := Aside0.mk hlt
  have hr : wrap64 (wrap64 (wrap64 ((k : Int) * d) + n) * 2) = (p : Int) := hat.1
  obtain ⟨j, hj⟩ : ∃ j : Nat, j = p + 2 := ⟨_, rfl⟩
  have hw2 : wrap64 ((p : Int) + 2) = (j : Int) := by
   rw [hj]
   exact wrap_two p (by clear hr hj; have := HSL.out; omega)
  have b1 : decide ((k : Int) < wrap64 (a + b)) = true := by rw [HN.out]; exact decide_eq_true (by clear hr hw2; omega)
  have b2 : decide (k < m) = true := decide_eq_true hlt
  have b3 : (k < m) = True := eq_true hlt
  have f1 : (j ≤ cm) = True := eq_true (by clear hr hw2; have := HCM.out; omega)
  have f2 : (p ≤ j) = True := eq_true (by clear hr hw2; omega)
  have f3 : (j = p) = False := eq_false (by clear hr hw2; omega)
  have f4 : j - p = 2 := by clear hr hw2; omega
  clear hj
  have Hcx := Aside0.mk (pw_cell_below HB.out hcx)
  have Hcy := Aside0.mk (show wr.cell? ⟨(ad.add p).block, (ad.add p).off + 1, none⟩ = some (.slice By y.length cy) by rw [← add_field _ _ 1 (by omega)]; exact pw_cell_below HB.out hcy)
  have HZ3 := Aside0.mk (show g3 < wr.heap.size from blk_lt BKg3.out)
  have HWR := Aside0.mk (show w.heap.size ≤ wr.heap.size from HB.out.size)
  clear hlt hat hp hp1 hp2 hfx hfy hxm hym hcx hcy hlex hley hCx hCy
  have hcg3_0 : wr.cell? ⟨g3, 0, none⟩ = some (.int .i64 a) := (blk_cell BKg3.out 0).trans rfl; have hfg3_0 := blk_frozen BKg3.out 0; have hcg3_1 : wr.cell? ⟨g3, 1, none⟩ = some (.int .i64 b) := (blk_cell BKg3.out 1).trans rfl; have hfg3_1 := blk_frozen BKg3.out 1; have hcg3_3 : wr.cell? ⟨g3, 3, none⟩ = some (.int .i64 d) := (blk_cell BKg3.out 3).trans rfl; have hfg3_3 := blk_frozen BKg3.out 3; have hcg3_4 : wr.cell? ⟨g3, 4, none⟩ = some (.slice (some ad) sl.length cm) := (blk_cell BKg3.out 4).trans rfl; have hfg3_4 := blk_frozen BKg3.out 4
  have xHcx := Hcx.out
  have xHcy := Hcy.out
  go_wp2_with (fail)
  have HOr := Aside0.mk HO.out
  clear hr hw2 f1 f2 f3 f4
  replace HO := Aside0.mk (Kd.S_mono (Kd.S_bound HO.out) (fun k hk => hk.2.2.1) : Kd.S kp59 59 _ w.heap.size (fun k => k < _) vv (rowOf at_ sl k))
  (try clear hcg3_0 hfg3_0)
  (try clear hcg3_1 hfg3_1)
  (try clear hcg3_3 hfg3_3)
  (try clear hcg3_4 hfg3_4)
  (try clear xHcx)
  (try clear xHcy)
  have hs : Below wr.heap.size wr (World.drew wr) := below_drew1 (Below.refl _ _)
  have SZ3 := Aside0.mk (show wr.heap.size ≤ (World.drew wr).heap.size from hs.size)
  replace BKg3 := Aside0.mk (blk_below BKg3.out hs)
  replace Hcx := Aside0.mk (pw_cell_below hs Hcx.out)
  replace Hcy := Aside0.mk (pw_cell_below hs Hcy.out)
  replace HO := Aside0.mk (Kd.S_below HO.out hs)
  have n_ := Aside0.mk (below_step HB.out hs)
  clear HB
  have HB := n_
  clear n_ hs
  refine start_ (n := 13) (S := fun w' => w'.cell? ⟨g3, 0, none⟩ = some (.int .i64 a) ∧ w'.cell? ⟨g3, 1, none⟩ = some (.int .i64 b) ∧ w'.cell? ⟨g3, 3, none⟩ = some (.int .i64 d) ∧ w'.cell? ⟨g3, 4, none⟩ = some (.slice (some ad) sl.length cm) ∧ w'.cell? (ad.add p) = some (.slice Bx x.length cx) ∧ w'.cell? ⟨(ad.add p).block, (ad.add p).off + 1, none⟩ = some (.slice By y.length cy)) (ds := [10, 11]) #[O,O,O,O,O,O,O,O,O,O,O,O,O] (by kernel_rfl) rfl rfl ⟨(blk_cell BKg3.out 0).trans rfl, (blk_cell BKg3.out 1).trans rfl, (blk_cell BKg3.out 3).trans rfl, (blk_cell BKg3.out 4).trans rfl, Hcx.out, Hcy.out⟩ (fun hHeld => ?_)
  generalize World.drew wr = w3 at HB BKg3 Hcx Hcy HO SZ3 hHeld ⊢
  refine pure_ (i := 0) (N := some 51) (v := ?_) (a' := ?_) #[X,O,O,O,O,O,O,O,O,O,O,O,O] rfl rfl (by kernel_rfl) (fun _ _ _ h => h) (Or.inl ⟨by rfl, ?_⟩) ?_ ?_
  rotate_left; (intro w'; go_simp; with_reducible rfl); rotate_left; (simp only [sP]; rfl)
  refine pure_ (i := 1) (N := some 52) (v := ?_) (a' := ?_) #[X,X,O,O,O,O,O,O,O,O,O,O,O] rfl rfl (by kernel_rfl) (fun _ _ _ h => h) (Or.inl ⟨by rfl, ?_⟩) ?_ ?_
  rotate_left; (intro w'; go_simp; with_reducible rfl); rotate_left; (simp only [sP]; rfl)
  refine pure_ (i := 2) (N := some 53) (v := ?_) (a' := ?_) #[X,X,X,O,O,O,O,O,O,O,O,O,O] rfl rfl (by kernel_rfl) (fun _ _ _ h => h) (Or.inl ⟨by rfl, ?_⟩) ?_ ?_
  rotate_left; (intro w'; go_simp; with_reducible rfl); rotate_left; (simp only [sP]; rfl)
  refine pure_ (i := 5) (N := some 56) (v := ?_) (a' := ?_) #[X,X,X,O,O,X,O,O,O,O,O,O,O] rfl rfl (by kernel_rfl) (fun _ _ _ h => h) (Or.inl ⟨by rfl, ?_⟩) ?_ ?_
  rotate_left; (intro w'; go_simp; with_reducible rfl); rotate_left; (simp only [sP]; rfl)
  refine pure_ (i := 6) (N := some 57) (v := ?_) (a' := ?_) #[X,X,X,O,O,X,X,O,O,O,O,O,O] rfl rfl (by kernel_rfl) (fun _ _ _ h => h) (Or.inl ⟨by rfl, ?_⟩) ?_ ?_
  rotate_left; (intro w'; go_simp; with_reducible rfl); rotate_left; (simp only [sP]; rfl)
  refine take_ (i := 3) (N := some 54) (v := ?_) (a' := ?_) #[X,X,X,X,O,X,X,O,O,O,O,O,O] rfl rfl (by kernel_rfl) (fun _ _ _ h => h) (Or.inl ⟨by rfl, ?_⟩) hHeld ?_ ?_
  rotate_left; (rintro w' ⟨s0, s1, s2, s3, s4, s5⟩; go_simp; with_reducible rfl); rotate_left; (simp only [sP]; rfl)
  refine take_ (i := 7) (N := some 58) (v := ?_) (a' := ?_) #[X,X,X,X,O,X,X,X,O,O,O,O,O] rfl rfl (by kernel_rfl) (fun _ _ _ h => h) (Or.inl ⟨by rfl, ?_⟩) hHeld ?_ ?_
  rotate_left; (rintro w' ⟨s0, s1, s2, s3, s4, s5⟩; go_simp; with_reducible rfl); rotate_left; (simp only [sP]; rfl)
  refine one_ (i := 4) (N := some 55) #[X,X,X,X,X,X,X,X,O,O,O,O,O] rfl rfl (by kernel_rfl) (by decide) (fun K hK => ?_)
  refine goes_ Try.func46 (by kernel_rfl) rfl #[.slice Bx x.length cx] (by rfl) rfl rfl (by simp only [List.map_toArray, List.map_cons, List.map_nil]; rfl) ?_
  with_reducible refine (image_taken.calls Bx cx x x _ ?s1 ALx.out ACx.out).mono ?_
  (case s1 => exact Kd.C_below HCx.out (by repeat (first | exact HB.out | apply below_alloc | apply pw_below_drewN | apply below_drew1)))
  rintro e w4 ⟨v5, rfl, hv, hb⟩
  refine ⟨_, rfl, ?_⟩
  have hs : Below w3.heap.size w3 w4 := below_step (by repeat (first | exact Below.refl _ _ | apply below_alloc | apply pw_below_drewN | apply below_drew1)) hb
  have hl : w3.heap.size ≤ _ := below_size (w := w3) (by repeat (first | exact Below.refl _ _ | apply below_alloc | apply pw_below_drewN | apply below_drew1))
  have SZ4 := Aside0.mk (show w3.heap.size ≤ w4.heap.size from hs.size)
  replace BKg3 := Aside0.mk (blk_below BKg3.out hs)
  replace Hcx := Aside0.mk (pw_cell_below hs Hcx.out)
  replace Hcy := Aside0.mk (pw_cell_below hs Hcy.out)
  replace HO := Aside0.mk (Kd.S_below HO.out hs)
  have HX := Aside0.mk (R_iv (base := w.heap.size) hv (by have h1 := hl; have := HZ3.out; have := HWR.out; have := SZ3.out; omega) hl)
  clear hv
  obtain ⟨A5, c5, e5_⟩ := Kd.R_slice HX.out
  subst e5_
  have n_ := Aside0.mk (below_step HB.out hs)
  clear HB
  have HB := n_
  clear n_ hs hb
  (try clear hl)
  refine hK.out _ _ ⟨(blk_cell BKg3.out 0).trans rfl, (blk_cell BKg3.out 1).trans rfl, (blk_cell BKg3.out 3).trans rfl, (blk_cell BKg3.out 4).trans rfl, Hcx.out, Hcy.out⟩ (fun hHeld => ?_)
  clear hK K
  refine norm_ (a' := ?_) ?_ ?_
  rotate_left
  ·
   show Act.put _ (some 55) _ = _
   simp only [sP]
   rfl
  refine one_ (i := 8) (N := some 59) #[X,X,X,X,X,X,X,X,X,O,O,O,O] rfl rfl (by kernel_rfl) (by decide) (fun K hK => ?_)
  refine goes_ Try.func46 (by kernel_rfl) rfl #[.slice By y.length cy] (by rfl) rfl rfl (by simp only [List.map_toArray, List.map_cons, List.map_nil]; rfl) ?_
  with_reducible refine (image_taken.calls By cy y y _ ?s1 ALy.out ACy.out).mono ?_
  (case s1 => exact Kd.C_below HCy.out (by repeat (first | exact HB.out | apply below_alloc | apply pw_below_drewN | apply below_drew1)))
  rintro e w5 ⟨v6, rfl, hv, hb⟩
  refine ⟨_, rfl, ?_⟩
  have hs : Below w4.heap.size w4 w5 := below_step (by repeat (first | exact Below.refl _ _ | apply below_alloc | apply pw_below_drewN | apply below_drew1)) hb
  have hl : w4.heap.size ≤ _ := below_size (w := w4) (by repeat (first | exact Below.refl _ _ | apply below_alloc | apply pw_below_drewN | apply below_drew1))
  have SZ5 := Aside0.mk (show w4.heap.size ≤ w5.heap.size from hs.size)
  replace BKg3 := Aside0.mk (blk_below BKg3.out hs)
  replace Hcx := Aside0.mk (pw_cell_below hs Hcx.out)
  replace Hcy := Aside0.mk (pw_cell_below hs Hcy.out)
  replace HO := Aside0.mk (Kd.S_below HO.out hs)
  replace HX := Aside0.mk (Kd.R_below HX.out hs)
  have HY := Aside0.mk (R_iv (base := w.heap.size) hv (by have h1 := hl; have := HZ3.out; have := HWR.out; have := SZ3.out; have := SZ4.out; omega) hl)
  clear hv
  obtain ⟨A6, c6, e6_⟩ := Kd.R_slice HY.out
  subst e6_
  have n_ := Aside0.mk (below_step HB.out hs)
  clear HB
  have HB := n_
  clear n_ hs hb
  (try clear hl)
  refine hK.out _ _ ⟨(blk_cell BKg3.out 0).trans rfl, (blk_cell BKg3.out 1).trans rfl, (blk_cell BKg3.out 3).trans rfl, (blk_cell BKg3.out 4).trans rfl, Hcx.out, Hcy.out⟩ (fun hHeld => ?_)
  clear hK K
  refine norm_ (a' := ?_) ?_ ?_
  rotate_left
  ·
   show Act.put _ (some 59) _ = _
   simp only [sP]
   rfl
  refine pure_ (i := 9) (N := some 60) (v := ?_) (a' := ?_) #[X,X,X,X,X,X,X,X,X,X,O,O,O] rfl rfl (by kernel_rfl) (fun _ _ _ h => h) (Or.inl ⟨by rfl, ?_⟩) ?_ ?_
  rotate_left; (intro w'; go_simp; with_reducible rfl); rotate_left; (simp only [sP]; rfl)
  refine last_ (i := 10) (N := some 61) #[X,X,X,X,X,X,X,X,X,X,X,O,O] rfl rfl (by kernel_rfl) (by decide) (fun K hK => ?_)
  refine value_ (w1 := ?_) (v := ?_) (by rfl) rfl ?_ ?_
  rotate_left 2
  ·
   go_simp
   constructor
   ·
    rfl
   ·
    rfl
  refine hK.out _ _ ?_
  clear hK K
  refine norm_ (a' := ?_) ?_ ?_
  rotate_left
  ·
   show Act.put _ (some 61) _ = _
   simp only [sP]
   rfl
  refine last_ (i := 11) (N := some 62) #[X,X,X,X,X,X,X,X,X,X,X,X,O] rfl rfl (by kernel_rfl) (by decide) (fun K hK => ?_)
  refine Kd.S_append_step kp59 (w0 := w) w.heap.size (by rfl) (.tmp 51) (.tmp 61) 42 59 (.agg #[.slice none 0 0, .slice none 0 0]) 48 rfl Try.underlying42 infoRow rfl (by decide) (by omega) vv (rowOf at_ sl k) ⟨x, y⟩ [.slice A5 x.length c5, .slice A6 y.length c6] (fun _ => True) (fun q => Iv w3.heap.size w4.heap.size q ∨ Iv w4.heap.size w5.heap.size q) rfl rfl ⟨_, _, _, _, rfl, HX.out, HY.out, fun q hq => .inl hq, fun q hq => .inr hq, fun q h1 h2 => by unfold Iv at h1 h2; omega⟩ (fun q hq => ⟨trivial, fun he => by have h1 := Kd.S_lt HOr.out q he.symm; unfold Iv at hq; have := SZ3.out; have := SZ4.out; have := SZ5.out; omega⟩) (fun _ _ => trivial) (Kd.S_mono HO.out (fun q hq => ⟨trivial, fun h => by unfold Iv at h; have := SZ3.out; have := SZ4.out; have := SZ5.out; omega⟩)) HB.out HB.out.size (by have h1 := AX.out; have h2 := HM.out; rw [rowOf_len]; omega) ?_
  intro v9 w9 ho hb hg hat_
  have HO9 := Aside0.mk ho
  have HB9 := Aside0.mk hb
  have BK9 := Aside0.mk (blk_grown BKg3.out hg (Kd.S_ne HO.out BKg3.out (by decide)))
  clear ho hb hg hat_
  refine hK.out _ _ ?_
  clear hK K
  refine norm_ (a' := ?_) ?_ ?_
  rotate_left
  ·
   show Act.put _ (some 62) _ = _
   simp only [sP]
   rfl
  refine pure_ (i := 12) (N := some 7) (v := ?_) (a' := ?_) #[X,X,X,X,X,X,X,X,X,X,X,X,X] rfl rfl (by kernel_rfl) (fun _ _ _ h => h) (Or.inl ⟨by rfl, ?_⟩) ?_ ?_
  rotate_left; (intro w'; go_simp; with_reducible rfl); rotate_left; (simp only [sP]; rfl)
  refine done_ (by kernel_rfl) ?_
  have hcg3_0 : w5.cell? ⟨g3, 0, none⟩ = some (.int .i64 a) := (blk_cell BKg3.out 0).trans rfl; have hfg3_0 := blk_frozen BKg3.out 0; have hcg3_1 : w5.cell? ⟨g3, 1, none⟩ = some (.int .i64 b) := (blk_cell BKg3.out 1).trans rfl; have hfg3_1 := blk_frozen BKg3.out 1; have hcg3_3 : w5.cell? ⟨g3, 3, none⟩ = some (.int .i64 d) := (blk_cell BKg3.out 3).trans rfl; have hfg3_3 := blk_frozen BKg3.out 3; have hcg3_4 : w5.cell? ⟨g3, 4, none⟩ = some (.slice (some ad) sl.length cm) := (blk_cell BKg3.out 4).trans rfl; have hfg3_4 := blk_frozen BKg3.out 4
  have xHcx := Hcx.out
  have xHcy := Hcy.out
  (try clear hcg3_0 hfg3_0)
  (try clear hcg3_1 hfg3_1)
  (try clear hcg3_3 hfg3_3)
  (try clear hcg3_4 hfg3_4)
  (try clear xHcx)
  (try clear xHcy)
  clear HB HO BKg3
  go_wp2_with (fail)
  have hkk := HK.out
  have hax := AX.out
  have hmm := HM.out
  go_roundg (gk - 1)
  case measure => omega
  case rel =>
   refine ⟨k + 1, _, rfl, by rw [show wrap64 ((k : Int) + 1) = ((k + 1 : Nat) : Int) by unfold wrap64; omega], Aside0.mk ⟨by omega, by omega⟩, BK9, Aside0.mk ?_, HB9⟩
   rw [rowOf_succ, ← HPA.out, HPX.out, HPY.out]
   exact HO9.out
theorem Row_good (k0 : Nat) (a b c d : Int) (Am : Option Addr) (cm : Nat) (sl : List (List Int)) (n : Int) (w : World) (hCm : Kd.C (Kd.slice 5 (Kd.int .u8)) w Am sl.length sl) (hcm : sl.length ≤ cm) (hck : image_Check.f k0 a b c d sl = some 0) (hn : 0 ≤ n) (hm : n < d) (m : Nat) (hN : wrap64 (a + b) = (m : Int)) (hm2 : m ≤ 10000) (at_ : Nat → Nat) (hat : ∀ i, i < m → rowAt d n i = (at_ i : Int) ∧ at_ i + 2 ≤ sl.length) (hsl : sl.length ≤ 100000) (hel : ∀ x ∈ sl, x.length ≤ 1000000) : Calls Try.prog 15 #[.agg #[.int .i64 a, .int .i64 b, .int .i64 c, .int .i64 d, .slice Am sl.length cm], .int .i64 n] w fun e w' => ∃ v : Value, e = .returned (.tuple #[v, .int .i64 0]) ∧ Kd.R k59 59 w' w.heap.size (fun _ => True) v (rowOf at_ sl m) ∧ Below w.heap.size w w' :=
 (Row_goodS k0 a b c d Am cm sl n w hCm hcm hck hn hm m hN hm2 at_ hat hsl hel).mono (fun e w' ⟨v, he, ho, hb⟩ => ⟨v, he, R_of_kp (Kd.S_R ho), hb⟩)
/-- Where a row's slots are, all at once. -/
def image_Row.at_ (d n : Int) (i : Nat) : Nat := (rowAt d n i).toNat
def image_Row.fine (a b d : Int) (sl : List (List Int)) (n : Int) : Bool := decide (0 ≤ wrap64 (a + b) ∧ wrap64 (a + b) ≤ 10000 ∧ sl.length ≤ 100000) && (sl.all (fun x => decide (x.length ≤ 1000000)) && (List.range (wrap64 (a + b)).toNat).all (fun i => decide (0 ≤ rowAt d n i ∧ (rowAt d n i).toNat + 2 ≤ sl.length)))
def image_Row.f (k : Nat) (a0_0 : Int) (a0_1 : Int) (a0_2 : Int) (a0_3 : Int) (l0_4 : List (List Int)) (a1 : Int) : Option (List S59 × Int) :=
 (image_Check.f k a0_0 a0_1 a0_2 a0_3 l0_4).bind fun e => if e = 0 then (if a1 < 0 ∨ a0_3 ≤ a1 then some ([], 2) else if image_Row.fine a0_0 a0_1 a0_3 l0_4 a1 = true then some (rowOf (image_Row.at_ a0_3 a1) l0_4 (wrap64 (a0_0 + a0_1)).toNat, 0) else none) else some ([], e)
theorem image_Row.callsS (k : Nat) (a b c d : Int) (Am : Option Addr) (cm : Nat) (sl : List (List Int)) (n : Int) (r0 : List S59) (r1 : Int) (w : World) (hCm : Kd.C (Kd.slice 5 (Kd.int .u8)) w Am sl.length sl) (hcm : sl.length ≤ cm) (h : image_Row.f k a b c d sl n = some (r0, r1)) :
  Calls Try.prog 15 #[.agg #[.int .i64 a, .int .i64 b, .int .i64 c, .int .i64 d, .slice Am sl.length cm], .int .i64 n] w fun e w' => ∃ v0_ : Value, e = .returned (.tuple #[v0_, .int .i64 r1]) ∧ Kd.S kp59 59 w' w.heap.size (fun _ => True) v0_ r0 ∧ Below w.heap.size w w' := by
 unfold image_Row.f at h
 obtain ⟨e0, hck, h⟩ := Option.bind_eq_some_iff.mp h
 have nil : ∀ x : Int, Calls Try.prog 15 #[.agg #[.int .i64 a, .int .i64 b, .int .i64 c, .int .i64 d, .slice Am sl.length cm], .int .i64 n] w (fun e w' => e = .returned (.tuple #[.slice none 0 0, .int .i64 x]) ∧ Below w.heap.size w w') → ([], x) = (r0, r1) → Calls Try.prog 15 #[.agg #[.int .i64 a, .int .i64 b, .int .i64 c, .int .i64 d, .slice Am sl.length cm], .int .i64 n] w (fun e w' => ∃ v0_ : Value, e = .returned (.tuple #[v0_, .int .i64 r1]) ∧ Kd.S kp59 59 w' w.heap.size (fun _ => True) v0_ r0 ∧ Below w.heap.size w w') := by
  intro x hc he
  injection he with h1 h2
  subst h1 h2
  exact hc.mono (fun e w' hq => ⟨_, hq.1, Kd.S_nil _ _ _ _ _, hq.2⟩)
 by_cases he : e0 = 0
 ·
  subst he
  rw [if_pos rfl] at h
  by_cases hn : n < 0 ∨ d ≤ n
  ·
   rw [if_pos hn] at h
   refine nil 2 ?_ (Option.some.inj h)
   by_cases hn0 : n < 0
   ·
    exact Row_less k a b c d Am cm sl n w hCm hcm hck hn0
   ·
    exact Row_more k a b c d Am cm sl n w hCm hcm hck (by omega) (by omega)
  ·
   rw [if_neg hn] at h
   by_cases hf : image_Row.fine a b d sl n = true
   ·
    rw [if_pos hf] at h
    have h2 := Option.some.inj h
    injection h2 with h3 h4
    subst h3 h4
    unfold image_Row.fine at hf
    rw [Bool.and_eq_true, Bool.and_eq_true] at hf
    obtain ⟨f1, f2, f3⟩ := hf
    obtain ⟨g1, g2, g3⟩ := of_decide_eq_true f1
    refine Row_goodS k a b c d Am cm sl n w hCm hcm hck (by omega) (by omega) (wrap64 (a + b)).toNat (by omega) (by omega) (image_Row.at_ d n) (fun i hi => ?_) g3 (fun x hx => of_decide_eq_true (List.all_eq_true.mp f2 x hx))
    have := of_decide_eq_true (List.all_eq_true.mp f3 i (List.mem_range.mpr hi))
    exact ⟨(Int.toNat_of_nonneg this.1).symm, this.2⟩
   ·
    rw [if_neg hf] at h
    cases h
 ·
  rw [if_neg he] at h
  exact nil e0 (Row_check k a b c d Am cm sl n w hCm hcm e0 hck he) (Option.some.inj h)
end Go.Proofs.Ytcnmocbiekfpbaa.P

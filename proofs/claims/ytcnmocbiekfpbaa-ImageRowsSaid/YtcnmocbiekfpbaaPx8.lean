-- Written by a program of this session, after the kit's print.
import Derived.Test.YtcnmocbiekfpbaaPx0
import Derived.Test.YtcnmocbiekfpbaaP0Short
import Derived.Test.YtcnmocbiekfpbaaPx4
import Derived.Test.YtcnmocbiekfpbaaPx7
namespace Go.Proofs.Ytcnmocbiekfpbaa.P
open Go.RowKit Go.Proofs.YtcnmocbiekfpbaaW.PrintWords Go.Proofs.YtcnmocbiekfpbaaW.PrintLast Go.Proofs.YtcnmocbiekfpbaaW.PrintMore
attribute [local go_sem] max2_int min2_int max_two min_two max_three min_three max_four min_four   -- for this text's walks alone
set_option linter.unusedVariables false
set_option linter.unusedSimpArgs false

def eqF (k : Nat) : List (List Int) → List (List Int) → Option Bool
 | [], [] => some true
 | x :: l, y :: m => (bytes_Equal.f x y).bind fun b => if b = true then eqF k l m else some false
 | _, _ => some false
def image_Same.f (k : Nat) (a0_0 : Int) (a0_1 : Int) (a0_2 : Int) (a0_3 : Int) (l0_4 : List (List Int)) (a1_0 : Int) (a1_1 : Int) (a1_2 : Int) (a1_3 : Int) (l1_4 : List (List Int)) : Option Bool :=
 if a0_0 = a1_0 ∧ a0_1 = a1_1 ∧ a0_2 = a1_2 ∧ a0_3 = a1_3 then (if l0_4.length = l1_4.length ∧ l0_4.length ≤ 1000000 then eqF k l0_4 l1_4 else if l0_4.length = l1_4.length then none else some false) else some false
theorem elem9 {w : World} {A : Option Addr} {l : List (List Int)} (h : Kd.C (Kd.slice 5 (Kd.int .u8)) w A l.length l) (k : Nat) (hk : k < l.length) :
  ∃ (ad : Addr) (x : List Int), A = some ad ∧ l.drop k = x :: l.drop (k + 1) ∧ ∃ B c, w.cell? (ad.add k) = some (.slice B x.length c) ∧ x.length ≤ c ∧ Kd.C (Kd.int .u8) w B x.length x := by
 obtain ⟨ad, x, e, hf, _, B, c, h1, h2, h3⟩ := bytes_elem h k hk
 refine ⟨ad, x, e, ?_, B, c, h1, h2, h3⟩
 have h4 := List.take_succ_eq_append_getElem hk
 rw [hf] at h4
 have h5 := List.append_cancel_left h4
 injection h5 with h6 _
 rw [h6]
 exact List.drop_eq_getElem_cons hk
set_option maxHeartbeats 8000000 in
set_option maxRecDepth 100000 in
theorem EqualFunc_len (Am Bm : Option Addr) (cm dm : Nat) (sl tl : List (List Int)) (w : World) (hne : sl.length ≠ tl.length) : Calls Try.prog 55 #[.slice Am sl.length cm, .slice Bm tl.length dm, .func (.func 47) #[] #[]] w fun e w' => e = .returned (.bool false) ∧ Below w.heap.size w w' := by
 have d1 : ((sl.length : Int) == (tl.length : Int)) = false := beq_false_of_ne (by omega)
 have d2 : (sl.length = tl.length) = False := eq_false hne
 clear hne
 go_enter Try.func55, Try.ntmps55
 go_wp2
 go_ret
 exact ⟨rfl, Below.refl _ _⟩
set_option maxHeartbeats 8000000 in
set_option maxRecDepth 100000 in
theorem EqualFunc_walk (k0 : Nat) (Am Bm : Option Addr) (cm dm : Nat) (sl tl : List (List Int)) (r : Bool) (w : World) (hC : Kd.C (Kd.slice 5 (Kd.int .u8)) w Am sl.length sl) (hD : Kd.C (Kd.slice 5 (Kd.int .u8)) w Bm tl.length tl) (hln : sl.length = tl.length) (hm : sl.length ≤ 1000000) (h : eqF k0 sl tl = some r) : Calls Try.prog 55 #[.slice Am sl.length cm, .slice Bm tl.length dm, .func (.func 47) #[] #[]] w fun e w' => e = .returned (.bool r) ∧ Below w.heap.size w w' := by
 have HB := Aside0.mk (Below.refl w.heap.size w)
 have HC := Aside0.mk hC
 have HD := Aside0.mk hD
 have HLN := Aside0.mk hln
 have HM := Aside0.mk hm
 have HF := Aside0.mk h
 have d1 : ((sl.length : Int) == (tl.length : Int)) = true := beq_iff_eq.mpr (by omega)
 have d2 : (sl.length = tl.length) = True := eq_true hln
 have d3 : ((sl.length : Int) != (tl.length : Int)) = false := by rw [bne, d1]; rfl
 clear hC hD hln hm h
 go_enter Try.func55, Try.ntmps55
 go_wp2
 clear d1 d2 d3
 go_loopg [17] sl.length (fun kq v17 wr => ∃ k : Nat, v17 = .int .i64 (k : Int) ∧ Aside0 (k ≤ sl.length ∧ sl.length - k ≤ kq) ∧ Aside0 (eqF k0 (sl.drop k) (tl.drop k) = some r) ∧ Aside0 (Below w.heap.size w wr))
 case atStart => exact ⟨0, rfl, Aside0.mk ⟨by omega, by omega⟩, Aside0.mk (by rw [List.drop_zero, List.drop_zero]; exact HF.out), HB⟩
 case round =>
  clear HB
  obtain ⟨k, rfl, AX, HR, HB⟩ := hrel
  by_cases hlt : k < sl.length
  rotate_left
  ·
   have b1 : decide ((k : Int) < (sl.length : Int)) = false := decide_eq_false (by omega)
   have b2 : decide (k < sl.length) = false := decide_eq_false hlt
   have e : r = true := by
    have h := HR.out
    rw [List.drop_eq_nil_of_le (by omega), List.drop_eq_nil_of_le (by have := HLN.out; omega)] at h
    unfold eqF at h
    exact (Option.some.inj h).symm
   subst e
   clear hlt
   go_wp2
   go_ret
   exact ⟨rfl, HB.out⟩
  obtain ⟨ad, x, eA, hdx, Bx, cx, hcx, hlex, hCx⟩ := elem9 HC.out k hlt
  obtain ⟨ad2, y, eA2, hdy, By, cy, hcy, hley, hCy⟩ := elem9 HD.out k (by rw [← HLN.out]; exact hlt)
  subst eA
  subst eA2
  have hr := HR.out
  rw [hdx, hdy] at hr
  unfold eqF at hr
  obtain ⟨b, hb, hr⟩ := Option.bind_eq_some_iff.mp hr
  have HE := Aside0.mk hb
  have hx := pw_cell_below HB.out hcx
  have hy := pw_cell_below HB.out hcy
  have ALx := Aside0.mk hlex
  have ALy := Aside0.mk hley
  have HCx := Aside0.mk hCx
  have HCy := Aside0.mk hCy
  have HK := Aside0.mk hlt
  have b1 : decide ((k : Int) < (sl.length : Int)) = true := decide_eq_true (by omega)
  have b2 : decide (k < sl.length) = true := decide_eq_true hlt
  have b3 : (k < sl.length) = True := eq_true hlt
  have b4 : (k < tl.length) = True := eq_true (by rw [← HLN.out]; exact hlt)
  clear hlt hcx hcy hlex hley hCx hCy hdx hdy hb
  cases b with
  | true =>
   rw [if_pos rfl] at hr
   have HR2 := Aside0.mk hr
   clear hr
   go_wp2_with (go_at_call 47; (with_reducible refine (bytes_Equal.calls Bx cx x By cy y _ _ ?s1 ALx.out ?s2 ALy.out HE.out).mono ?_); (case s1 => exact Kd.C_below HCx.out (by repeat (first | exact HB.out | apply below_alloc | apply pw_below_drewN | apply below_drew1))); (case s2 => exact Kd.C_below HCy.out (by repeat (first | exact HB.out | apply below_alloc | apply pw_below_drewN | apply below_drew1))); rintro e w2 ⟨rfl, hd⟩; have hb := hd.below; replace HB := Aside0.mk (below_step (by repeat (first | exact HB.out | apply below_alloc | apply pw_below_drewN | apply below_drew1)) hb); clear hb hd)
   go_roundg (gk - 1)
   case measure =>
    have := AX.out
    have := HK.out
    omega
   case rel =>
    have h1 := AX.out
    have h2 := HK.out
    have h3 := HM.out
    exact ⟨k + 1, by rw [show wrap64 ((k : Int) + 1) = ((k + 1 : Nat) : Int) by unfold wrap64; omega], Aside0.mk ⟨by omega, by omega⟩, HR2, HB⟩
  | false =>
   rw [if_neg (by decide)] at hr
   obtain rfl := Option.some.inj hr
   clear hr
   go_wp2_with (go_at_call 47; (with_reducible refine (bytes_Equal.calls Bx cx x By cy y _ _ ?s1 ALx.out ?s2 ALy.out HE.out).mono ?_); (case s1 => exact Kd.C_below HCx.out (by repeat (first | exact HB.out | apply below_alloc | apply pw_below_drewN | apply below_drew1))); (case s2 => exact Kd.C_below HCy.out (by repeat (first | exact HB.out | apply below_alloc | apply pw_below_drewN | apply below_drew1))); rintro e w2 ⟨rfl, hd⟩; have hb := hd.below; replace HB := Aside0.mk (below_step (by repeat (first | exact HB.out | apply below_alloc | apply pw_below_drewN | apply below_drew1)) hb); clear hb hd)
   go_ret
   exact ⟨rfl, HB.out⟩
set_option maxHeartbeats 8000000 in
set_option maxRecDepth 100000 in
theorem Same_p1 (a b c d a2 b2 c2 d2 : Int) (Am Bm : Option Addr) (cm dm : Nat) (sl tl : List (List Int)) (w : World) (hne : a ≠ a2) : Calls Try.prog 34 #[.agg #[.int .i64 a, .int .i64 b, .int .i64 c, .int .i64 d, .slice Am sl.length cm], .agg #[.int .i64 a2, .int .i64 b2, .int .i64 c2, .int .i64 d2, .slice Bm tl.length dm]] w fun e w' => e = .returned (.bool false) ∧ Below w.heap.size w w' := by
 have hu27 := Try.underlying27
 have hu24 := Try.underlying24
 have HB := Aside0.mk (Below.refl w.heap.size w)
 have dd1 : (a == a2) = false := beq_false_of_ne hne
 have dd2 : (a = a2) = False := eq_false hne
 clear hne
 go_enter Try.func34, Try.ntmps34
 have tok1 : True := trivial
 go_wp2_with (first | (have _ := tok1; (with_reducible refine gate_dst (N := 2) rfl ?_); refine box_event rfl (N := 2) rfl (cs := #[.int .i64 a, .int .i64 b, .int .i64 c, .int .i64 d, .slice Am sl.length cm]) (t := 27) (by go_simp; try rfl) ?_; intro g2 hg w1 hbox hb; have hs : Below w.heap.size w w1 := below_step (by repeat (first | exact Below.refl _ _ | apply below_alloc | apply pw_below_drewN | apply below_drew1)) hb; have SZ1 := Aside0.mk (show w.heap.size ≤ g2 ∧ g2 < w1.heap.size from ⟨by rw [hg]; exact (below_size (by repeat (first | exact Below.refl _ _ | apply below_alloc | apply pw_below_drewN | apply below_drew1))), blk_lt hbox⟩); replace HB := Aside0.mk (below_step HB.out hs); have BKg2 := Aside0.mk hbox; clear hb hbox hg hs; obtain ⟨hcg2_0, hcg2_1, hcg2_2, hcg2_3, hcg2_4, hfg2_0, hfg2_1, hfg2_2, hfg2_3, hfg2_4⟩ := cs5 BKg2.out; clear tok1; have tok2 : True := trivial) | (have _ := tok2; (with_reducible refine gate_dst (N := 3) rfl ?_); refine box_event rfl (N := 3) rfl (cs := #[.int .i64 a2, .int .i64 b2, .int .i64 c2, .int .i64 d2, .slice Bm tl.length dm]) (t := 27) (by go_simp; try rfl) ?_; intro g3 hg w2 hbox hb; have hs : Below w1.heap.size w1 w2 := below_step (by repeat (first | exact Below.refl _ _ | apply below_alloc | apply pw_below_drewN | apply below_drew1)) hb; have SZ2 := Aside0.mk (show w1.heap.size ≤ g3 ∧ g3 < w2.heap.size from ⟨by rw [hg]; exact (below_size (by repeat (first | exact Below.refl _ _ | apply below_alloc | apply pw_below_drewN | apply below_drew1))), blk_lt hbox⟩); (try clear hcg2_0 hfg2_0); (try clear hcg2_1 hfg2_1); (try clear hcg2_2 hfg2_2); (try clear hcg2_3 hfg2_3); (try clear hcg2_4 hfg2_4); replace BKg2 := Aside0.mk (blk_below BKg2.out hs); replace HB := Aside0.mk (below_step HB.out hs); have hneg2_g3 : g2 ≠ g3 := (by have := SZ2.out; have := SZ1.out; omega); have hneg3_g2 : g3 ≠ g2 := hneg2_g3.symm; have BKg3 := Aside0.mk hbox; clear hb hbox hg hs; obtain ⟨hcg2_0, hcg2_1, hcg2_2, hcg2_3, hcg2_4, hfg2_0, hfg2_1, hfg2_2, hfg2_3, hfg2_4⟩ := cs5 BKg2.out; obtain ⟨hcg3_0, hcg3_1, hcg3_2, hcg3_3, hcg3_4, hfg3_0, hfg3_1, hfg3_2, hfg3_3, hfg3_4⟩ := cs5 BKg3.out; clear tok2))
 go_ret
 exact ⟨rfl, (by repeat (first | exact HB.out | apply below_alloc | apply pw_below_drewN | apply below_drew1))⟩
set_option maxHeartbeats 8000000 in
set_option maxRecDepth 100000 in
theorem Same_p2 (a b c d a2 b2 c2 d2 : Int) (Am Bm : Option Addr) (cm dm : Nat) (sl tl : List (List Int)) (w : World) (hne : b ≠ b2) : Calls Try.prog 34 #[.agg #[.int .i64 a, .int .i64 b, .int .i64 c, .int .i64 d, .slice Am sl.length cm], .agg #[.int .i64 a, .int .i64 b2, .int .i64 c2, .int .i64 d2, .slice Bm tl.length dm]] w fun e w' => e = .returned (.bool false) ∧ Below w.heap.size w w' := by
 have hu27 := Try.underlying27
 have hu24 := Try.underlying24
 have HB := Aside0.mk (Below.refl w.heap.size w)
 have dd1 : (b == b2) = false := beq_false_of_ne hne
 have dd2 : (b = b2) = False := eq_false hne
 clear hne
 go_enter Try.func34, Try.ntmps34
 have tok1 : True := trivial
 go_wp2_with (first | (have _ := tok1; (with_reducible refine gate_dst (N := 2) rfl ?_); refine box_event rfl (N := 2) rfl (cs := #[.int .i64 a, .int .i64 b, .int .i64 c, .int .i64 d, .slice Am sl.length cm]) (t := 27) (by go_simp; try rfl) ?_; intro g2 hg w1 hbox hb; have hs : Below w.heap.size w w1 := below_step (by repeat (first | exact Below.refl _ _ | apply below_alloc | apply pw_below_drewN | apply below_drew1)) hb; have SZ1 := Aside0.mk (show w.heap.size ≤ g2 ∧ g2 < w1.heap.size from ⟨by rw [hg]; exact (below_size (by repeat (first | exact Below.refl _ _ | apply below_alloc | apply pw_below_drewN | apply below_drew1))), blk_lt hbox⟩); replace HB := Aside0.mk (below_step HB.out hs); have BKg2 := Aside0.mk hbox; clear hb hbox hg hs; obtain ⟨hcg2_0, hcg2_1, hcg2_2, hcg2_3, hcg2_4, hfg2_0, hfg2_1, hfg2_2, hfg2_3, hfg2_4⟩ := cs5 BKg2.out; clear tok1; have tok2 : True := trivial) | (have _ := tok2; (with_reducible refine gate_dst (N := 3) rfl ?_); refine box_event rfl (N := 3) rfl (cs := #[.int .i64 a, .int .i64 b2, .int .i64 c2, .int .i64 d2, .slice Bm tl.length dm]) (t := 27) (by go_simp; try rfl) ?_; intro g3 hg w2 hbox hb; have hs : Below w1.heap.size w1 w2 := below_step (by repeat (first | exact Below.refl _ _ | apply below_alloc | apply pw_below_drewN | apply below_drew1)) hb; have SZ2 := Aside0.mk (show w1.heap.size ≤ g3 ∧ g3 < w2.heap.size from ⟨by rw [hg]; exact (below_size (by repeat (first | exact Below.refl _ _ | apply below_alloc | apply pw_below_drewN | apply below_drew1))), blk_lt hbox⟩); (try clear hcg2_0 hfg2_0); (try clear hcg2_1 hfg2_1); (try clear hcg2_2 hfg2_2); (try clear hcg2_3 hfg2_3); (try clear hcg2_4 hfg2_4); replace BKg2 := Aside0.mk (blk_below BKg2.out hs); replace HB := Aside0.mk (below_step HB.out hs); have hneg2_g3 : g2 ≠ g3 := (by have := SZ2.out; have := SZ1.out; omega); have hneg3_g2 : g3 ≠ g2 := hneg2_g3.symm; have BKg3 := Aside0.mk hbox; clear hb hbox hg hs; obtain ⟨hcg2_0, hcg2_1, hcg2_2, hcg2_3, hcg2_4, hfg2_0, hfg2_1, hfg2_2, hfg2_3, hfg2_4⟩ := cs5 BKg2.out; obtain ⟨hcg3_0, hcg3_1, hcg3_2, hcg3_3, hcg3_4, hfg3_0, hfg3_1, hfg3_2, hfg3_3, hfg3_4⟩ := cs5 BKg3.out; clear tok2))
 go_ret
 exact ⟨rfl, (by repeat (first | exact HB.out | apply below_alloc | apply pw_below_drewN | apply below_drew1))⟩
set_option maxHeartbeats 8000000 in
set_option maxRecDepth 100000 in
theorem Same_p3 (a b c d a2 b2 c2 d2 : Int) (Am Bm : Option Addr) (cm dm : Nat) (sl tl : List (List Int)) (w : World) (hne : c ≠ c2) : Calls Try.prog 34 #[.agg #[.int .i64 a, .int .i64 b, .int .i64 c, .int .i64 d, .slice Am sl.length cm], .agg #[.int .i64 a, .int .i64 b, .int .i64 c2, .int .i64 d2, .slice Bm tl.length dm]] w fun e w' => e = .returned (.bool false) ∧ Below w.heap.size w w' := by
 have hu27 := Try.underlying27
 have hu24 := Try.underlying24
 have HB := Aside0.mk (Below.refl w.heap.size w)
 have dd1 : (c == c2) = false := beq_false_of_ne hne
 have dd2 : (c = c2) = False := eq_false hne
 clear hne
 go_enter Try.func34, Try.ntmps34
 have tok1 : True := trivial
 go_wp2_with (first | (have _ := tok1; (with_reducible refine gate_dst (N := 2) rfl ?_); refine box_event rfl (N := 2) rfl (cs := #[.int .i64 a, .int .i64 b, .int .i64 c, .int .i64 d, .slice Am sl.length cm]) (t := 27) (by go_simp; try rfl) ?_; intro g2 hg w1 hbox hb; have hs : Below w.heap.size w w1 := below_step (by repeat (first | exact Below.refl _ _ | apply below_alloc | apply pw_below_drewN | apply below_drew1)) hb; have SZ1 := Aside0.mk (show w.heap.size ≤ g2 ∧ g2 < w1.heap.size from ⟨by rw [hg]; exact (below_size (by repeat (first | exact Below.refl _ _ | apply below_alloc | apply pw_below_drewN | apply below_drew1))), blk_lt hbox⟩); replace HB := Aside0.mk (below_step HB.out hs); have BKg2 := Aside0.mk hbox; clear hb hbox hg hs; obtain ⟨hcg2_0, hcg2_1, hcg2_2, hcg2_3, hcg2_4, hfg2_0, hfg2_1, hfg2_2, hfg2_3, hfg2_4⟩ := cs5 BKg2.out; clear tok1; have tok2 : True := trivial) | (have _ := tok2; (with_reducible refine gate_dst (N := 3) rfl ?_); refine box_event rfl (N := 3) rfl (cs := #[.int .i64 a, .int .i64 b, .int .i64 c2, .int .i64 d2, .slice Bm tl.length dm]) (t := 27) (by go_simp; try rfl) ?_; intro g3 hg w2 hbox hb; have hs : Below w1.heap.size w1 w2 := below_step (by repeat (first | exact Below.refl _ _ | apply below_alloc | apply pw_below_drewN | apply below_drew1)) hb; have SZ2 := Aside0.mk (show w1.heap.size ≤ g3 ∧ g3 < w2.heap.size from ⟨by rw [hg]; exact (below_size (by repeat (first | exact Below.refl _ _ | apply below_alloc | apply pw_below_drewN | apply below_drew1))), blk_lt hbox⟩); (try clear hcg2_0 hfg2_0); (try clear hcg2_1 hfg2_1); (try clear hcg2_2 hfg2_2); (try clear hcg2_3 hfg2_3); (try clear hcg2_4 hfg2_4); replace BKg2 := Aside0.mk (blk_below BKg2.out hs); replace HB := Aside0.mk (below_step HB.out hs); have hneg2_g3 : g2 ≠ g3 := (by have := SZ2.out; have := SZ1.out; omega); have hneg3_g2 : g3 ≠ g2 := hneg2_g3.symm; have BKg3 := Aside0.mk hbox; clear hb hbox hg hs; obtain ⟨hcg2_0, hcg2_1, hcg2_2, hcg2_3, hcg2_4, hfg2_0, hfg2_1, hfg2_2, hfg2_3, hfg2_4⟩ := cs5 BKg2.out; obtain ⟨hcg3_0, hcg3_1, hcg3_2, hcg3_3, hcg3_4, hfg3_0, hfg3_1, hfg3_2, hfg3_3, hfg3_4⟩ := cs5 BKg3.out; clear tok2))
 go_ret
 exact ⟨rfl, (by repeat (first | exact HB.out | apply below_alloc | apply pw_below_drewN | apply below_drew1))⟩
set_option maxHeartbeats 8000000 in
set_option maxRecDepth 100000 in
theorem Same_p4 (a b c d a2 b2 c2 d2 : Int) (Am Bm : Option Addr) (cm dm : Nat) (sl tl : List (List Int)) (w : World) (hne : d ≠ d2) : Calls Try.prog 34 #[.agg #[.int .i64 a, .int .i64 b, .int .i64 c, .int .i64 d, .slice Am sl.length cm], .agg #[.int .i64 a, .int .i64 b, .int .i64 c, .int .i64 d2, .slice Bm tl.length dm]] w fun e w' => e = .returned (.bool false) ∧ Below w.heap.size w w' := by
 have hu27 := Try.underlying27
 have hu24 := Try.underlying24
 have HB := Aside0.mk (Below.refl w.heap.size w)
 have dd1 : (d == d2) = false := beq_false_of_ne hne
 have dd2 : (d = d2) = False := eq_false hne
 clear hne
 go_enter Try.func34, Try.ntmps34
 have tok1 : True := trivial
 go_wp2_with (first | (have _ := tok1; (with_reducible refine gate_dst (N := 2) rfl ?_); refine box_event rfl (N := 2) rfl (cs := #[.int .i64 a, .int .i64 b, .int .i64 c, .int .i64 d, .slice Am sl.length cm]) (t := 27) (by go_simp; try rfl) ?_; intro g2 hg w1 hbox hb; have hs : Below w.heap.size w w1 := below_step (by repeat (first | exact Below.refl _ _ | apply below_alloc | apply pw_below_drewN | apply below_drew1)) hb; have SZ1 := Aside0.mk (show w.heap.size ≤ g2 ∧ g2 < w1.heap.size from ⟨by rw [hg]; exact (below_size (by repeat (first | exact Below.refl _ _ | apply below_alloc | apply pw_below_drewN | apply below_drew1))), blk_lt hbox⟩); replace HB := Aside0.mk (below_step HB.out hs); have BKg2 := Aside0.mk hbox; clear hb hbox hg hs; obtain ⟨hcg2_0, hcg2_1, hcg2_2, hcg2_3, hcg2_4, hfg2_0, hfg2_1, hfg2_2, hfg2_3, hfg2_4⟩ := cs5 BKg2.out; clear tok1; have tok2 : True := trivial) | (have _ := tok2; (with_reducible refine gate_dst (N := 3) rfl ?_); refine box_event rfl (N := 3) rfl (cs := #[.int .i64 a, .int .i64 b, .int .i64 c, .int .i64 d2, .slice Bm tl.length dm]) (t := 27) (by go_simp; try rfl) ?_; intro g3 hg w2 hbox hb; have hs : Below w1.heap.size w1 w2 := below_step (by repeat (first | exact Below.refl _ _ | apply below_alloc | apply pw_below_drewN | apply below_drew1)) hb; have SZ2 := Aside0.mk (show w1.heap.size ≤ g3 ∧ g3 < w2.heap.size from ⟨by rw [hg]; exact (below_size (by repeat (first | exact Below.refl _ _ | apply below_alloc | apply pw_below_drewN | apply below_drew1))), blk_lt hbox⟩); (try clear hcg2_0 hfg2_0); (try clear hcg2_1 hfg2_1); (try clear hcg2_2 hfg2_2); (try clear hcg2_3 hfg2_3); (try clear hcg2_4 hfg2_4); replace BKg2 := Aside0.mk (blk_below BKg2.out hs); replace HB := Aside0.mk (below_step HB.out hs); have hneg2_g3 : g2 ≠ g3 := (by have := SZ2.out; have := SZ1.out; omega); have hneg3_g2 : g3 ≠ g2 := hneg2_g3.symm; have BKg3 := Aside0.mk hbox; clear hb hbox hg hs; obtain ⟨hcg2_0, hcg2_1, hcg2_2, hcg2_3, hcg2_4, hfg2_0, hfg2_1, hfg2_2, hfg2_3, hfg2_4⟩ := cs5 BKg2.out; obtain ⟨hcg3_0, hcg3_1, hcg3_2, hcg3_3, hcg3_4, hfg3_0, hfg3_1, hfg3_2, hfg3_3, hfg3_4⟩ := cs5 BKg3.out; clear tok2))
 go_ret
 exact ⟨rfl, (by repeat (first | exact HB.out | apply below_alloc | apply pw_below_drewN | apply below_drew1))⟩
set_option maxHeartbeats 8000000 in
set_option maxRecDepth 100000 in
theorem Same_eq_params_len (k0 : Nat) (a b c d : Int) (Am Bm : Option Addr) (cm dm : Nat) (sl tl : List (List Int)) (w : World) (hne : sl.length ≠ tl.length) : Calls Try.prog 34 #[.agg #[.int .i64 a, .int .i64 b, .int .i64 c, .int .i64 d, .slice Am sl.length cm], .agg #[.int .i64 a, .int .i64 b, .int .i64 c, .int .i64 d, .slice Bm tl.length dm]] w fun e w' => e = .returned (.bool false) ∧ Below w.heap.size w w' := by
 have hu27 := Try.underlying27
 have hu24 := Try.underlying24
 have HB := Aside0.mk (Below.refl w.heap.size w)
 have HN := Aside0.mk hne
 clear hne
 go_enter Try.func34, Try.ntmps34
 have tok1 : True := trivial
 go_wp2_with (first | (have _ := tok1; (with_reducible refine gate_dst (N := 2) rfl ?_); refine box_event rfl (N := 2) rfl (cs := #[.int .i64 a, .int .i64 b, .int .i64 c, .int .i64 d, .slice Am sl.length cm]) (t := 27) (by go_simp; try rfl) ?_; intro g2 hg w1 hbox hb; have hs : Below w.heap.size w w1 := below_step (by repeat (first | exact Below.refl _ _ | apply below_alloc | apply pw_below_drewN | apply below_drew1)) hb; have SZ1 := Aside0.mk (show w.heap.size ≤ g2 ∧ g2 < w1.heap.size from ⟨by rw [hg]; exact (below_size (by repeat (first | exact Below.refl _ _ | apply below_alloc | apply pw_below_drewN | apply below_drew1))), blk_lt hbox⟩); replace HB := Aside0.mk (below_step HB.out hs); have BKg2 := Aside0.mk hbox; clear hb hbox hg hs; obtain ⟨hcg2_0, hcg2_1, hcg2_2, hcg2_3, hcg2_4, hfg2_0, hfg2_1, hfg2_2, hfg2_3, hfg2_4⟩ := cs5 BKg2.out; clear tok1; have tok2 : True := trivial) | (have _ := tok2; (with_reducible refine gate_dst (N := 3) rfl ?_); refine box_event rfl (N := 3) rfl (cs := #[.int .i64 a, .int .i64 b, .int .i64 c, .int .i64 d, .slice Bm tl.length dm]) (t := 27) (by go_simp; try rfl) ?_; intro g3 hg w2 hbox hb; have hs : Below w1.heap.size w1 w2 := below_step (by repeat (first | exact Below.refl _ _ | apply below_alloc | apply pw_below_drewN | apply below_drew1)) hb; have SZ2 := Aside0.mk (show w1.heap.size ≤ g3 ∧ g3 < w2.heap.size from ⟨by rw [hg]; exact (below_size (by repeat (first | exact Below.refl _ _ | apply below_alloc | apply pw_below_drewN | apply below_drew1))), blk_lt hbox⟩); (try clear hcg2_0 hfg2_0); (try clear hcg2_1 hfg2_1); (try clear hcg2_2 hfg2_2); (try clear hcg2_3 hfg2_3); (try clear hcg2_4 hfg2_4); replace BKg2 := Aside0.mk (blk_below BKg2.out hs); replace HB := Aside0.mk (below_step HB.out hs); have hneg2_g3 : g2 ≠ g3 := (by have := SZ2.out; have := SZ1.out; omega); have hneg3_g2 : g3 ≠ g2 := hneg2_g3.symm; have BKg3 := Aside0.mk hbox; clear hb hbox hg hs; obtain ⟨hcg2_0, hcg2_1, hcg2_2, hcg2_3, hcg2_4, hfg2_0, hfg2_1, hfg2_2, hfg2_3, hfg2_4⟩ := cs5 BKg2.out; obtain ⟨hcg3_0, hcg3_1, hcg3_2, hcg3_3, hcg3_4, hfg3_0, hfg3_1, hfg3_2, hfg3_3, hfg3_4⟩ := cs5 BKg3.out; clear tok2; have tok3 : True := trivial) | (have _ := tok3; go_at_call 55; (with_reducible refine (EqualFunc_len Am Bm cm dm sl tl _ HN.out).mono ?_); rintro e w3 ⟨rfl, hb⟩; (try clear hcg2_0 hfg2_0); (try clear hcg2_1 hfg2_1); (try clear hcg2_2 hfg2_2); (try clear hcg2_3 hfg2_3); (try clear hcg2_4 hfg2_4); (try clear hcg3_0 hfg3_0); (try clear hcg3_1 hfg3_1); (try clear hcg3_2 hfg3_2); (try clear hcg3_3 hfg3_3); (try clear hcg3_4 hfg3_4); have hs : Below w2.heap.size w2 w3 := below_step (by repeat (first | exact Below.refl _ _ | apply below_alloc | apply pw_below_drewN | apply below_drew1)) hb; have hl : w2.heap.size ≤ _ := below_size (w := w2) (by repeat (first | exact Below.refl _ _ | apply below_alloc | apply pw_below_drewN | apply below_drew1)); have SZ3 := Aside0.mk (show w2.heap.size ≤ w3.heap.size from hs.size); replace BKg2 := Aside0.mk (blk_below BKg2.out hs); replace BKg3 := Aside0.mk (blk_below BKg3.out hs); replace HB := Aside0.mk (below_step HB.out hs); clear hb hs; (try clear hl); obtain ⟨hcg2_0, hcg2_1, hcg2_2, hcg2_3, hcg2_4, hfg2_0, hfg2_1, hfg2_2, hfg2_3, hfg2_4⟩ := cs5 BKg2.out; obtain ⟨hcg3_0, hcg3_1, hcg3_2, hcg3_3, hcg3_4, hfg3_0, hfg3_1, hfg3_2, hfg3_3, hfg3_4⟩ := cs5 BKg3.out; clear tok3))
 go_ret
 exact ⟨rfl, (by repeat (first | exact HB.out | apply below_alloc | apply pw_below_drewN | apply below_drew1))⟩
set_option maxHeartbeats 8000000 in
set_option maxRecDepth 100000 in
theorem Same_eq_params_all (k0 : Nat) (a b c d : Int) (Am Bm : Option Addr) (cm dm : Nat) (sl tl : List (List Int)) (w : World) (r : Bool) (hC : Kd.C (Kd.slice 5 (Kd.int .u8)) w Am sl.length sl) (hD : Kd.C (Kd.slice 5 (Kd.int .u8)) w Bm tl.length tl) (hln : sl.length = tl.length) (hm : sl.length ≤ 1000000) (h : eqF k0 sl tl = some r) : Calls Try.prog 34 #[.agg #[.int .i64 a, .int .i64 b, .int .i64 c, .int .i64 d, .slice Am sl.length cm], .agg #[.int .i64 a, .int .i64 b, .int .i64 c, .int .i64 d, .slice Bm tl.length dm]] w fun e w' => e = .returned (.bool r) ∧ Below w.heap.size w w' := by
 have hu27 := Try.underlying27
 have hu24 := Try.underlying24
 have HB := Aside0.mk (Below.refl w.heap.size w)
 have HC := Aside0.mk hC
 have HD := Aside0.mk hD
 have HLN := Aside0.mk hln
 have HM := Aside0.mk hm
 have HF := Aside0.mk h
 clear hC hD hln hm h
 go_enter Try.func34, Try.ntmps34
 have tok1 : True := trivial
 go_wp2_with (first | (have _ := tok1; (with_reducible refine gate_dst (N := 2) rfl ?_); refine box_event rfl (N := 2) rfl (cs := #[.int .i64 a, .int .i64 b, .int .i64 c, .int .i64 d, .slice Am sl.length cm]) (t := 27) (by go_simp; try rfl) ?_; intro g2 hg w1 hbox hb; have hs : Below w.heap.size w w1 := below_step (by repeat (first | exact Below.refl _ _ | apply below_alloc | apply pw_below_drewN | apply below_drew1)) hb; have SZ1 := Aside0.mk (show w.heap.size ≤ g2 ∧ g2 < w1.heap.size from ⟨by rw [hg]; exact (below_size (by repeat (first | exact Below.refl _ _ | apply below_alloc | apply pw_below_drewN | apply below_drew1))), blk_lt hbox⟩); replace HB := Aside0.mk (below_step HB.out hs); have BKg2 := Aside0.mk hbox; clear hb hbox hg hs; obtain ⟨hcg2_0, hcg2_1, hcg2_2, hcg2_3, hcg2_4, hfg2_0, hfg2_1, hfg2_2, hfg2_3, hfg2_4⟩ := cs5 BKg2.out; clear tok1; have tok2 : True := trivial) | (have _ := tok2; (with_reducible refine gate_dst (N := 3) rfl ?_); refine box_event rfl (N := 3) rfl (cs := #[.int .i64 a, .int .i64 b, .int .i64 c, .int .i64 d, .slice Bm tl.length dm]) (t := 27) (by go_simp; try rfl) ?_; intro g3 hg w2 hbox hb; have hs : Below w1.heap.size w1 w2 := below_step (by repeat (first | exact Below.refl _ _ | apply below_alloc | apply pw_below_drewN | apply below_drew1)) hb; have SZ2 := Aside0.mk (show w1.heap.size ≤ g3 ∧ g3 < w2.heap.size from ⟨by rw [hg]; exact (below_size (by repeat (first | exact Below.refl _ _ | apply below_alloc | apply pw_below_drewN | apply below_drew1))), blk_lt hbox⟩); (try clear hcg2_0 hfg2_0); (try clear hcg2_1 hfg2_1); (try clear hcg2_2 hfg2_2); (try clear hcg2_3 hfg2_3); (try clear hcg2_4 hfg2_4); replace BKg2 := Aside0.mk (blk_below BKg2.out hs); replace HB := Aside0.mk (below_step HB.out hs); have hneg2_g3 : g2 ≠ g3 := (by have := SZ2.out; have := SZ1.out; omega); have hneg3_g2 : g3 ≠ g2 := hneg2_g3.symm; have BKg3 := Aside0.mk hbox; clear hb hbox hg hs; obtain ⟨hcg2_0, hcg2_1, hcg2_2, hcg2_3, hcg2_4, hfg2_0, hfg2_1, hfg2_2, hfg2_3, hfg2_4⟩ := cs5 BKg2.out; obtain ⟨hcg3_0, hcg3_1, hcg3_2, hcg3_3, hcg3_4, hfg3_0, hfg3_1, hfg3_2, hfg3_3, hfg3_4⟩ := cs5 BKg3.out; clear tok2; have tok3 : True := trivial) | (have _ := tok3; go_at_call 55; (with_reducible refine (EqualFunc_walk k0 Am Bm cm dm sl tl r _ ?s1 ?s2 HLN.out HM.out HF.out).mono ?_); (case s1 => exact Kd.C_below HC.out (by repeat (first | exact HB.out | apply below_alloc | apply pw_below_drewN | apply below_drew1))); (case s2 => exact Kd.C_below HD.out (by repeat (first | exact HB.out | apply below_alloc | apply pw_below_drewN | apply below_drew1))); rintro e w3 ⟨rfl, hb⟩; (try clear hcg2_0 hfg2_0); (try clear hcg2_1 hfg2_1); (try clear hcg2_2 hfg2_2); (try clear hcg2_3 hfg2_3); (try clear hcg2_4 hfg2_4); (try clear hcg3_0 hfg3_0); (try clear hcg3_1 hfg3_1); (try clear hcg3_2 hfg3_2); (try clear hcg3_3 hfg3_3); (try clear hcg3_4 hfg3_4); have hs : Below w2.heap.size w2 w3 := below_step (by repeat (first | exact Below.refl _ _ | apply below_alloc | apply pw_below_drewN | apply below_drew1)) hb; have hl : w2.heap.size ≤ _ := below_size (w := w2) (by repeat (first | exact Below.refl _ _ | apply below_alloc | apply pw_below_drewN | apply below_drew1)); have SZ3 := Aside0.mk (show w2.heap.size ≤ w3.heap.size from hs.size); replace BKg2 := Aside0.mk (blk_below BKg2.out hs); replace BKg3 := Aside0.mk (blk_below BKg3.out hs); replace HB := Aside0.mk (below_step HB.out hs); clear hb hs; (try clear hl); obtain ⟨hcg2_0, hcg2_1, hcg2_2, hcg2_3, hcg2_4, hfg2_0, hfg2_1, hfg2_2, hfg2_3, hfg2_4⟩ := cs5 BKg2.out; obtain ⟨hcg3_0, hcg3_1, hcg3_2, hcg3_3, hcg3_4, hfg3_0, hfg3_1, hfg3_2, hfg3_3, hfg3_4⟩ := cs5 BKg3.out; clear tok3))
 go_ret
 exact ⟨rfl, (by repeat (first | exact HB.out | apply below_alloc | apply pw_below_drewN | apply below_drew1))⟩
theorem image_Same.calls (k : Nat) (a0_0 : Int) (a0_1 : Int) (a0_2 : Int) (a0_3 : Int) (A0_4 : Option Addr) (c0_4 : Nat) (l0_4 : List (List Int)) (a1_0 : Int) (a1_1 : Int) (a1_2 : Int) (a1_3 : Int) (A1_4 : Option Addr) (c1_4 : Nat) (l1_4 : List (List Int)) (r : Bool) (w : World) (hr0_4 : Kd.C (Kd.slice 5 (Kd.int .u8)) w A0_4 l0_4.length l0_4) (hc0_4 : l0_4.length ≤ c0_4) (hr1_4 : Kd.C (Kd.slice 5 (Kd.int .u8)) w A1_4 l1_4.length l1_4) (hc1_4 : l1_4.length ≤ c1_4) (h : image_Same.f k a0_0 a0_1 a0_2 a0_3 l0_4 a1_0 a1_1 a1_2 a1_3 l1_4 = some r) :
  Calls Try.prog 34 #[.agg #[.int .i64 a0_0, .int .i64 a0_1, .int .i64 a0_2, .int .i64 a0_3, .slice A0_4 l0_4.length c0_4], .agg #[.int .i64 a1_0, .int .i64 a1_1, .int .i64 a1_2, .int .i64 a1_3, .slice A1_4 l1_4.length c1_4]] w fun e w' => e = .returned (.bool r) ∧ Below w.heap.size w w' := by
 unfold image_Same.f at h
 by_cases hp : a0_0 = a1_0 ∧ a0_1 = a1_1 ∧ a0_2 = a1_2 ∧ a0_3 = a1_3
 ·
  rw [if_pos hp] at h
  obtain ⟨rfl, rfl, rfl, rfl⟩ := hp
  by_cases hl : l0_4.length = l1_4.length ∧ l0_4.length ≤ 1000000
  ·
   rw [if_pos hl] at h
   exact Same_eq_params_all k a0_0 a0_1 a0_2 a0_3 A0_4 A1_4 c0_4 c1_4 l0_4 l1_4 w r hr0_4 hr1_4 hl.1 hl.2 h
  ·
   rw [if_neg hl] at h
   by_cases hl2 : l0_4.length = l1_4.length
   ·
    rw [if_pos hl2] at h
    cases h
   ·
    rw [if_neg hl2] at h
    obtain rfl := Option.some.inj h
    exact Same_eq_params_len k a0_0 a0_1 a0_2 a0_3 A0_4 A1_4 c0_4 c1_4 l0_4 l1_4 w hl2
 ·
  rw [if_neg hp] at h
  obtain rfl := Option.some.inj h
  by_cases h1 : a0_0 = a1_0
  ·
   subst h1
   by_cases h2 : a0_1 = a1_1
   ·
    subst h2
    by_cases h3 : a0_2 = a1_2
    ·
     subst h3
     exact Same_p4 a0_0 a0_1 a0_2 a0_3 0 0 0 a1_3 A0_4 A1_4 c0_4 c1_4 l0_4 l1_4 w (fun h4 => hp ⟨rfl, rfl, rfl, h4⟩)
    ·
     exact Same_p3 a0_0 a0_1 a0_2 a0_3 0 0 a1_2 a1_3 A0_4 A1_4 c0_4 c1_4 l0_4 l1_4 w h3
   ·
    exact Same_p2 a0_0 a0_1 a0_2 a0_3 0 a1_1 a1_2 a1_3 A0_4 A1_4 c0_4 c1_4 l0_4 l1_4 w h2
  ·
   exact Same_p1 a0_0 a0_1 a0_2 a0_3 a1_0 a1_1 a1_2 a1_3 A0_4 A1_4 c0_4 c1_4 l0_4 l1_4 w h1

end Go.Proofs.Ytcnmocbiekfpbaa.P

-- Written by a program of this session, after the kit's print.
import Derived.Test.YtcnmocbiekfpbaaPx0
import Derived.Test.YtcnmocbiekfpbaaP0Short
import Derived.Test.YtcnmocbiekfpbaaPx2
namespace Go.Proofs.Ytcnmocbiekfpbaa.P
open Go.RowKit Go.Proofs.YtcnmocbiekfpbaaW.PrintWords Go.Proofs.YtcnmocbiekfpbaaW.PrintLast Go.Proofs.YtcnmocbiekfpbaaW.PrintMore
attribute [local go_sem] max2_int min2_int max_two min_two max_three min_three max_four min_four   -- for this text's walks alone
set_option linter.unusedVariables false
set_option linter.unusedSimpArgs false

def Iv (lo hi k : Nat) : Prop := lo ≤ k ∧ k < hi
theorem Iv_out {lo hi g : Nat} (h : g < lo ∨ hi ≤ g) : ¬ Iv lo hi g := fun hk => by unfold Iv at hk; omega
theorem Iv_apart {lo hi lo' hi' : Nat} (h : hi ≤ lo' ∨ hi' ≤ lo) : ∀ k, Iv lo hi k → ¬ Iv lo' hi' k := fun k h1 h2 => by unfold Iv at h1 h2; omega
theorem kept_step {w W w1 : World} {S : Nat → Prop} (h : Below w.heap.size w W) (k : Kept W w1 S) : Kept w w1 S := (Kept.of_below h S).then_ k (fun _ hk => .inl hk)
theorem R_iv {α : Type} {d : Kd α} {e : Nat} {W w1 : World} {ok : Nat → Prop} {v : Value} {xs : List α} (h : Kd.R d e w1 W.heap.size ok v xs) {base lo : Nat} (hb : base ≤ W.heap.size) (hl : lo ≤ W.heap.size) : Kd.R d e w1 base (Iv lo w1.heap.size) v xs :=
 Kd.R_mono (Kd.R_lower (Kd.R_bound h) hb) (fun _ hk => ⟨Nat.le_trans hl hk.2.1, hk.2.2.1⟩)
theorem R_cell_row {α : Type} {d : Kd α} {e e' base g n cap i : Nat} {ok : Nat → Prop} {W : World} {xs : List (List α)}
  (h : (Kd.slice e' d).R e W base ok (.slice (some ⟨g, 0, none⟩) n cap) xs) (hi : i < xs.length) : ∃ u, W.cell? ⟨g, i, none⟩ = some u ∧ W.frozen? ⟨g, i, none⟩ = false := by
 obtain ⟨rfl, _⟩ := Kd.R_reads' h
 obtain ⟨h0, inner, hown, hr⟩ := h
 have hl : inner.length = xs.length := by
  have := hr.1
  simpa [Kd.slice] using this
 refine ⟨inner[i]'(by omega), ?_, World.ownsRow.frozenAt hown i⟩
 rw [World.ownsRow.cellAt hown i (by simpa [Kd.slice] using hi)]
 simp
theorem bytes_elem {w : World} {A : Option Addr} {l : List (List Int)} (h : Kd.C (Kd.slice 5 (Kd.int .u8)) w A l.length l) (k : Nat) (hk : k < l.length) :
  ∃ (ad : Addr) (x : List Int), A = some ad ∧ l.take (k + 1) = l.take k ++ [x] ∧ x ∈ l ∧ ∃ B c, w.cell? (ad.add k) = some (.slice B x.length c) ∧ x.length ≤ c ∧ Kd.C (Kd.int .u8) w B x.length x := by
 obtain ⟨ad, cs, e, hl, hK, hc⟩ := Kd.C_get h [] (k : Int) (by omega) (by omega)
 obtain ⟨B, c, rfl, hle, hC⟩ := hK
 have e1 : l.getD ((k : Int).toNat) [] = l[k] := by simp [hk]
 rw [e1] at hle hC hc
 refine ⟨ad, l[k], e, List.take_succ_eq_append_getElem hk, List.getElem_mem hk, B, c, ?_, hle, hC⟩
 have := hc 0 _ rfl
 simpa [Kd.slice] using this
theorem infoU8 : (Try.prog.info? 5).map (fun i => (i.zero, i.size, i.bytes)) = some (some (.int .u8 0), 1, 1) := by kernel_rfl
set_option maxHeartbeats 4000000 in
set_option maxRecDepth 100000 in
theorem taken_some (A0 : Option Addr) (c0 : Nat) (l0 : List Int) (w : World) (hr0 : Kd.C (Kd.int .u8) w A0 l0.length l0) (hc0 : l0.length ≤ c0) (h0 : 0 < l0.length) (hb : l0.length ≤ 1000000000) :
  Calls Try.prog 46 #[.slice A0 l0.length c0] w fun e w' => ∃ v0_ : Value, e = .returned (v0_) ∧ Kd.R (Kd.int .u8) 5 w' w.heap.size (fun _ => True) v0_ l0 ∧ Below w.heap.size w w' := by
 have HR := Aside0.mk hr0
 have NB := Aside0.mk (show ((l0.length : Int)).toNat ≤ 1000000000 by omega)
 have HB := Aside0.mk (Below.refl w.heap.size w)
 have d1 : ((l0.length : Int) == 0) = false := beq_false_of_ne (by omega)
 have d2 : (l0.length = 0) = False := eq_false (by omega)
 clear hr0 hc0 hb h0
 go_enter Try.func46, Try.ntmps46
 go_wp2_with (first | ((with_reducible refine gate_dst (N := 9) rfl ?_); refine Kd.R_make (Kd.int .u8) w.heap.size 5 rfl (N := 9) rfl 33 _ _ rfl (l0.length : Int) rfl rfl Try.underlying33 (.int .u8 0) 1 infoU8 rfl (by decide) (by omega) 0 (ok := fun _ => True) (okp := fun _ => True) rfl (fun _ hk => hk) trivial (by omega) (by have := NB.out; omega) HB.out HB.out.size ?_; intro v w5 ho hb hg_ hnew_; clear HB hg_ hnew_; have HB := Aside0.mk hb; have HO := Aside0.mk ho; clear ho hb) | (refine Kd.R_copy (enc := Value.int .u8) (h1 := fun _ => rfl) (0 : Int) (w0 := w) w.heap.size rfl (.tmp 10) (.tmp 11) 33 33 5 rfl Try.underlying33 (by kernel_rfl) v _ l0 A0 l0.length c0 (fun _ => True) rfl rfl HO.out (Kd.C_below HR.out HB.out) HB.out HB.out.size ?_; intro w6 ho hb hg; clear hg HB HO; have HB := Aside0.mk hb; have HO := Aside0.mk ho; clear ho hb))
 go_ret
 refine ⟨_, rfl, ?_, HB.out⟩
 have h := HO.out
 rw [List.length_replicate, Int.toNat_natCast, Nat.min_self, List.take_of_length_le (Nat.le_refl _), List.drop_of_length_le (by rw [List.length_replicate]; exact Nat.le_refl _), List.append_nil] at h
 exact h
set_option maxHeartbeats 4000000 in
set_option maxRecDepth 100000 in
theorem taken_none (A0 : Option Addr) (c0 : Nat) (l0 : List Int) (w : World) (h0 : l0.length = 0) : Calls Try.prog 46 #[.slice A0 l0.length c0] w fun e w' => e = .returned (.slice none 0 0) ∧ Below w.heap.size w w' := by
 have d1 : ((l0.length : Int) == 0) = true := beq_iff_eq.mpr (by omega)
 go_enter Try.func46, Try.ntmps46
 go_wp2
 go_ret
 exact ⟨rfl, Below.refl _ _⟩
def image_taken.f (l0 : List Int) : Option (List Int) := if l0.length ≤ 1000000000 then some l0 else none
theorem image_taken.calls (A0 : Option Addr) (c0 : Nat) (l0 : List Int) (r : List Int) (w : World) (hr0 : Kd.C (Kd.int .u8) w A0 l0.length l0) (hc0 : l0.length ≤ c0) (h : image_taken.f l0 = some r) :
  Calls Try.prog 46 #[.slice A0 l0.length c0] w fun e w' => ∃ v0_ : Value, e = .returned (v0_) ∧ Kd.R (Kd.int .u8) 5 w' w.heap.size (fun _ => True) v0_ r ∧ Below w.heap.size w w' := by
 unfold image_taken.f at h
 by_cases hb : l0.length ≤ 1000000000
 ·
  rw [if_pos hb] at h
  obtain rfl : l0 = r := Option.some.inj h
  by_cases h0 : l0.length = 0
  ·
   have hl : l0 = [] := List.eq_nil_of_length_eq_zero h0
   refine (taken_none A0 c0 l0 w h0).mono ?_
   rintro e w' ⟨rfl, hb⟩
   rw [hl]
   exact ⟨_, rfl, Kd.R_nil _ _ _ _ _, hb⟩
  ·
   exact taken_some A0 c0 l0 w hr0 hc0 (by omega) hb
 ·
  rw [if_neg hb] at h
  cases h

def image_twin.l0 : Nat → List (List Int) → List (List Int) → Int → Int → Int → Int → Int → Int → List (List Int) → Option (Int × Int × Int × Int × (List (List Int)))
 | 0, _, _, _, _, _, _, _, _, _ => none
 | k + 1, x3, x11, x12, x13, x106000, x106001, x106002, x106003, x106004 => if x13 < x12 then (if 0 ≤ x13 then (if x13 < (x11.length : Int) then ((image_taken.f (rd_L1 x11 x13)).bind fun t111 => (if x13 < (x3.length : Int) then (image_twin.l0 k (x3.set (x13 : Int).toNat t111) x11 x12 (wrap64 (x13 + 1)) x106000 x106001 x106002 x106003 x106004) else (none))) else (none)) else (none)) else (some (x106000, x106001, x106002, x106003, x3))
def image_twin.f (k : Nat) (a0_0 : Int) (a0_1 : Int) (a0_2 : Int) (a0_3 : Int) (l0_4 : List (List Int)) : Option (Int × Int × Int × Int × (List (List Int))) := if 0 ≤ (l0_4.length : Int) then (if ((l0_4.length : Int) : Int).toNat ≤ 11728124029610 then (image_twin.l0 k (List.replicate ((l0_4.length : Int) : Int).toNat []) l0_4 (l0_4.length : Int) 0 a0_0 a0_1 a0_2 a0_3 l0_4) else (none)) else (none)
set_option maxHeartbeats 8000000 in
set_option maxRecDepth 100000 in
theorem image_twin.calls (k : Nat) (a0_0 : Int) (a0_1 : Int) (a0_2 : Int) (a0_3 : Int) (A0_4 : Option Addr) (c0_4 : Nat) (l0_4 : List (List Int)) (r1 : Int) (r2 : Int) (r3 : Int) (r4 : Int) (r5 : List (List Int)) (w : World) (hr0_4 : Kd.C (Kd.slice 5 (Kd.int .u8)) w A0_4 l0_4.length l0_4) (hc0_4 : l0_4.length ≤ c0_4) (h : image_twin.f k a0_0 a0_1 a0_2 a0_3 l0_4 = some (r1, r2, r3, r4, r5)) :
  Calls Try.prog 45 #[.agg #[.int .i64 a0_0, .int .i64 a0_1, .int .i64 a0_2, .int .i64 a0_3, .slice A0_4 l0_4.length c0_4]] w fun e w' => ∃ v4_ : Value, e = .returned (.agg #[.int .i64 r1, .int .i64 r2, .int .i64 r3, .int .i64 r4, v4_]) ∧ Kd.S (Kd.slice 5 (Kd.int .u8)) 33 w' w.heap.size (fun _ => True) v4_ r5 ∧ Below w.heap.size w w' := by
 have hu27 := Try.underlying27
 have hu24 := Try.underlying24
 have HR0_4 := Aside0.mk hr0_4
 have HC0_4 := Aside0.mk hc0_4
 clear hr0_4 hc0_4
 have HB := Aside0.mk (Below.refl w.heap.size w)
 have H : (if 0 ≤ (l0_4.length : Int) then (if ((l0_4.length : Int) : Int).toNat ≤ 11728124029610 then (image_twin.l0 k (List.replicate ((l0_4.length : Int) : Int).toNat []) l0_4 (l0_4.length : Int) 0 a0_0 a0_1 a0_2 a0_3 l0_4) else (none)) else (none)) = some (r1, r2, r3, r4, r5) := h
 clear h
 by_cases c2 : 0 ≤ (l0_4.length : Int)
 ·
  rw [if_pos c2] at H
  have c2b0 := eq_true c2
  have c2b1 : decide (0 ≤ (l0_4.length : Int)) = true := decide_eq_true c2
  clear c2
  by_cases c3 : ((l0_4.length : Int) : Int).toNat ≤ 11728124029610
  ·
   rw [if_pos c3] at H
   have c3b0 := eq_true c3
   have c3b1 : decide (((l0_4.length : Int) : Int).toNat ≤ 11728124029610) = true := decide_eq_true c3
   clear c3
   obtain ⟨y107, hy107⟩ : ∃ y_ : List (List Int), y_ = (List.replicate ((l0_4.length : Int) : Int).toNat []) := ⟨_, rfl⟩
   replace H : (image_twin.l0 k y107 l0_4 (l0_4.length : Int) 0 a0_0 a0_1 a0_2 a0_3 l0_4) = some (r1, r2, r3, r4, r5) := by first | (rw [hy107]; with_reducible exact H) | (have H2_ := (Option.bind_some _ _).symm.trans H; rw [hy107]; with_reducible exact H2_) | (have H2_ := (Option.bind_some _ _).symm.trans H; with_reducible exact H2_) | with_reducible exact H | (rw [hy107]; exact H) | exact H
   have Ny107 := Aside0.mk hy107
   clear hy107
   have H' := Aside0.mk H
   clear H
   go_enter Try.func45, Try.ntmps45
   go_wp2_with (first | ((with_reducible refine gate_dst (N := 1) rfl ?_); refine box_event rfl (N := 1) rfl (cs := #[.int .i64 a0_0, .int .i64 a0_1, .int .i64 a0_2, .int .i64 a0_3, .slice A0_4 l0_4.length c0_4]) (t := 27) (by go_simp; try rfl) ?_; intro gb105 hg w4 hbox hb; have BK105 := Aside0.mk (hbox); have GW105 := Aside0.mk ((by rw [hg]; exact (sZ HB) : w.heap.size ≤ gb105)); have GE105 := Aside0.mk ((by rw [hg]; exact (sZ HB) : w.heap.size ≤ gb105)); replace HB := kH HB hb; clear hb hbox hg) | ((with_reducible refine gate_dst (N := 2) rfl ?_); refine box_event rfl (N := 2) rfl (cs := #[.int .i64 0, .int .i64 0, .int .i64 0, .int .i64 0, .slice none 0 0]) (t := 27) (by go_simp; try rfl) ?_; intro gb106 hg w5 hbox hb; have BK106 := Aside0.mk (hbox); have GW106 := Aside0.mk ((by rw [hg]; exact (below_size (by repeat (first | exact sH HB.out | refine sN (w := w) ?_ | with_reducible refine sG (w := w) ?_ (by assumption)))) : w.heap.size ≤ gb106)); have GE106 := Aside0.mk ((by rw [hg]; exact (below_size (by repeat (first | exact sH HB.out | refine sN (w := w) ?_ | with_reducible refine sG (w := w) ?_ (by assumption)))) : w.heap.size ≤ gb106)); replace HB := Aside0.mk (below_step (by repeat (first | exact sH HB.out | refine sN (w := w) ?_ | with_reducible refine sG (w := w) ?_ (by assumption))) hb); have NB105_106 := Aside0.mk ((by rw [hg]; exact Nat.ne_of_lt (blk_lt (g := gb105) (o := .cells #[.int .i64 a0_0, .int .i64 a0_1, .int .i64 a0_2, .int .i64 a0_3, .slice A0_4 l0_4.length c0_4] 27 (0, 0)) (by first | exact BK105.out | (refine sO ?_; exact BK105.out))) : gb105 ≠ gb106)); have NB106_105 := Aside0.mk ((by rw [hg]; exact Nat.ne_of_gt (blk_lt (g := gb105) (o := .cells #[.int .i64 a0_0, .int .i64 a0_1, .int .i64 a0_2, .int .i64 a0_3, .slice A0_4 l0_4.length c0_4] 27 (0, 0)) (by first | exact BK105.out | (refine sO ?_; exact BK105.out))) : gb106 ≠ gb105)); replace BK105 := kB BK105 hb; clear hb hbox hg; have hnb6 := NB105_106.out; have hnc6 := NB106_105.out; obtain ⟨hcz7_0, hcz7_1, hcz7_2, hcz7_3, hcz7_4, hfz7_0, hfz7_1, hfz7_2, hfz7_3, hfz7_4⟩ := cs5 BK105.out) | ((with_reducible refine gate_dst (N := 9) rfl ?_); refine Kd.S_make (Kd.slice 5 (Kd.int .u8)) _ 33 rfl (N := 9) rfl 25 _ _ rfl (l0_4.length : Int) rfl rfl Try.underlying25 (.slice none 0 0) 24 info33 rfl (by decide) (by omega) [] (ok := fun _ => True) (okp := fun _ => True) ⟨_, rfl, Kd.R_nil _ _ _ _ _⟩ (fun _ hk => hk) trivial (of_decide_eq_true (by first | (with_reducible assumption) | assumption)) (Nat.le_trans (Nat.mul_le_mul_right _ (of_decide_eq_true (by first | (with_reducible assumption) | assumption) : (l0_4.length : Int).toNat ≤ 11728124029610)) (by omega)) (Below.refl _ _) (Nat.le_refl _) ?_; intro v108 w8 ho9 hb hg_ hnew_; clear hg_ hnew_; (first | rw [← Ny107.out] at ho9 | (simp only [Int.reduceToNat] at ho9; rw [← Ny107.out] at ho9)); have HO109 := Aside0.mk (Kd.S_lower ho9 (below_size (by repeat (first | exact sH HB.out | refine sN (w := w) ?_ | with_reducible refine sG (w := w) ?_ (by assumption))))); replace BK105 := kB BK105 hb; replace BK106 := kB BK106 hb; replace HB := Aside0.mk (below_step (by repeat (first | exact sH HB.out | refine sN (w := w) ?_ | with_reducible refine sG (w := w) ?_ (by assumption))) hb); clear hb ho9; obtain ⟨hcz10_0, hcz10_1, hcz10_2, hcz10_3, hcz10_4, hfz10_0, hfz10_1, hfz10_2, hfz10_3, hfz10_4⟩ := cs5 BK105.out))
   go_loopg [13] k (fun kq v13 w' => ∃ (x3_1 : List (List Int)) (x13_1 : Int), v13 = .int .i64 x13_1 ∧ Aside0 (image_twin.l0 kq x3_1 l0_4 (l0_4.length : Int) x13_1 a0_0 a0_1 a0_2 a0_3 l0_4 = some (r1, r2, r3, r4, r5)) ∧ Aside0 (kq ≤ k) ∧ Aside0 (Kd.S (Kd.slice 5 (Kd.int .u8)) 33 w' w.heap.size (fun _ => True) v108 x3_1) ∧ Aside0 (w'.heap[gb105]? = some (.cells #[.int .i64 a0_0, .int .i64 a0_1, .int .i64 a0_2, .int .i64 a0_3, (.slice A0_4 l0_4.length c0_4)] 27 (0, 0))) ∧ Aside0 (w'.heap[gb106]? = some (.cells #[.int .i64 0, .int .i64 0, .int .i64 0, .int .i64 0, (.slice none 0 0)] 27 (0, 0))) ∧ Aside0 (Below w.heap.size w w'))
   case atStart => exact ⟨(y107), (0), (by first | rfl | (simp; done) | (simp [*]; done)), H', ⟨Nat.le_refl _⟩, ⟨by (with_reducible repeat (first | apply Kd.S_alloc | apply Kd.S_drewN | apply Kd.S_drew)); exact HO109.out⟩, ⟨by (try refine sO ?_); exact BK105.out⟩, ⟨by (try refine sO ?_); exact BK106.out⟩, ⟨by repeat (first | exact sH HB.out | refine sN (w := w) ?_ | with_reducible refine sG (w := w) ?_ (by assumption))⟩⟩
   case round =>
    clear H'
    try clear c2
    try clear c2b0
    try clear c2b1
    try clear p2
    try clear c3
    try clear c3b0
    try clear c3b1
    try clear c4
    try clear c6
    try clear hcz10_0
    try clear hcz10_1
    try clear hcz10_2
    try clear hcz10_3
    try clear hcz10_4
    try clear hcz7_0
    try clear hcz7_1
    try clear hcz7_2
    try clear hcz7_3
    try clear hcz7_4
    try clear hfz10_0
    try clear hfz10_1
    try clear hfz10_2
    try clear hfz10_3
    try clear hfz10_4
    try clear hfz7_0
    try clear hfz7_1
    try clear hfz7_2
    try clear hfz7_3
    try clear hfz7_4
    obtain ⟨x3_1, x13_1, rfl, HA, HK1, HO_3, BK105, BK106, HB⟩ := hrel
    cases gk with
    | zero => exact absurd HA.out (by simp [image_twin.l0])
    | succ k1 =>
     have H := HA.out
     clear HA
     simp only [image_twin.l0] at H
     by_cases c11 : x13_1 < (l0_4.length : Int)
     ·
      rw [if_pos c11] at H
      have c11b0 : decide (x13_1 < (l0_4.length : Int)) = true := decide_eq_true c11
      clear c11
      by_cases c12 : 0 ≤ x13_1
      ·
       rw [if_pos c12] at H
       have c12b0 : decide (0 ≤ x13_1) = true := decide_eq_true c12
       clear c12
       by_cases c13 : x13_1 < (l0_4.length : Int)
       ·
        rw [if_pos c13] at H
        have c13b0 : decide (x13_1 < (l0_4.length : Int)) = true := decide_eq_true c13
        clear c13
        replace H := Option.bind_eq_some_iff.mp H
        obtain ⟨t111, A140, H⟩ := H
        try dsimp only at H
        have A14 := Aside0.mk A140
        clear A140
        by_cases c15 : x13_1 < (x3_1.length : Int)
        ·
         rw [if_pos c15] at H
         have c15b0 : decide (x13_1 < (x3_1.length : Int)) = true := decide_eq_true c15
         clear c15
         obtain ⟨y114, hy114⟩ : ∃ y_ : List (List Int), y_ = (x3_1.set (x13_1 : Int).toNat t111) := ⟨_, rfl⟩
         replace H : (image_twin.l0 k1 y114 l0_4 (l0_4.length : Int) (wrap64 (x13_1 + 1)) a0_0 a0_1 a0_2 a0_3 l0_4) = some (r1, r2, r3, r4, r5) := by first | (rw [hy114]; with_reducible exact H) | (have H2_ := (Option.bind_some _ _).symm.trans H; rw [hy114]; with_reducible exact H2_) | (have H2_ := (Option.bind_some _ _).symm.trans H; with_reducible exact H2_) | with_reducible exact H | (rw [hy114]; exact H) | exact H
         have Ny114 := Aside0.mk hy114
         clear hy114
         have H' := Aside0.mk H
         clear H
         have p110 : 0 ≤ (x13_1 : Int) := of_decide_eq_true (by first | (with_reducible assumption) | assumption)
         have q110 : x13_1 < (l0_4.length : Int) := of_decide_eq_true (by first | (with_reducible assumption) | assumption)
         obtain ⟨ad110, A110_0, c110_0, e110, hx110_0, hl110_0, hi110_0⟩ := at_L1 HR0_4.out x13_1 p110 q110
         cases e110
         replace hx110_0 := (HB.out.cell (World.block_lt_of_cell? w _ hx110_0)).trans hx110_0
         have HR110_0 := Aside0.mk hi110_0
         have HC110_0 := Aside0.mk hl110_0
         clear hi110_0 hl110_0
         replace p110 := eq_true p110
         replace q110 := eq_true q110
         go_wp2_with (first | ((with_reducible refine gate_callee (f := 46) rfl ?_); refine goesL_ (some 21) rfl rfl Try.func46 (by kernel_rfl) rfl #[.slice A110_0 (rd_L1 l0_4 x13_1).length c110_0] rfl (by (try simp only [sM]); first | done | rfl | (simp only [sT]; rfl)) ?_; (with_reducible refine (image_taken.calls _ _ (rd_L1 l0_4 x13_1) t111 _ ?side1 ?side2 A14.out).mono ?_); (case side1 => exact sC (Kd.C_below HR110_0.out HB.out)); (case side2 => exact HC110_0.out); rintro e w17 ⟨v112, rfl, ho0, hb⟩; refine ⟨_, rfl, ?_⟩; replace HO_3 := Aside0.mk (Kd.S_elder' (sS HO_3.out) (Kd.R_base ho0) hb); have HO113 := Aside0.mk (Kd.R_lower ho0 (below_size (by repeat (first | exact sH HB.out | refine sN (w := w) ?_ | with_reducible refine sG (w := w) ?_ (by assumption))))); replace BK105 := kB BK105 hb; replace BK106 := kB BK106 hb; replace HB := Aside0.mk (below_step (by repeat (first | exact sH HB.out | refine sN (w := w) ?_ | with_reducible refine sG (w := w) ?_ (by assumption))) hb); (try clear hb); (try clear hb2); (try clear hk); (try clear hi); (try clear ho0); have p16 : 0 ≤ (x13_1 : Int) := of_decide_eq_true (by first | (with_reducible assumption) | assumption); have q16 : (x13_1 : Int) < ((x3_1.length : Int) : Int) := of_decide_eq_true (by first | (with_reducible assumption) | assumption); obtain ⟨go16, co16, eo16, gb16, gl16, cl16, HG16⟩ := Kd.S_form HO_3.out (by omega); (first | cases eo16 | (injection eo16 with ea_ en_ ec_; (first | subst ea_ | (injection ea_ with ea_; subst ea_)); subst ec_; clear en_)); have GB16 := Aside0.mk gb16; have GG16 := Aside0.mk HG16; clear gb16 gl16 HG16; obtain ⟨_, ce16, hcl16, hM16, hcc16, hfr16, _, _⟩ := Kd.S_elem HO_3.out [] (x13_1 : Int) p16 q16; obtain ⟨ve16_0, rfl, ge16_0⟩ := hM16; have hx16_0 := hcc16 0 _ rfl; have hf16_0 := hfr16 0; (try simp only [show ((Kd.slice 5 (Kd.int .u8))).sz = 1 from rfl, Nat.mul_one, Nat.add_zero] at hx16_0); (try simp only [show ((Kd.slice 5 (Kd.int .u8))).sz = 1 from rfl, Nat.mul_one, Nat.add_zero] at hf16_0); (try clear hcl16); (try clear hcc16); (try clear hfr16); (try clear hM16); replace p16 := eq_true p16; replace q16 := eq_true q16; have n_ := Aside0.mk (Kd.S_mono (ok' := (fun k_ => some k_ ≠ (v112 : Value).ownBlock)) HO_3.out (fun k_ hk => hk.2)); clear HO_3; have HO_3 := n_; clear n_; have HX18 := Aside0.mk (show Kd.S (Kd.slice 5 (Kd.int .u8)) 33 w17 w.heap.size (fun k_ => ((fun _ => True)) k_ ∧ ¬ ((fun k_ => some k_ = (v112 : Value).ownBlock)) k_) (.slice (some ⟨go16, 0, none⟩) x3_1.length co16) x3_1 from (by (with_reducible repeat (first | apply Kd.S_alloc | apply Kd.S_drewN | apply Kd.S_drew)); exact Kd.S_mono HO_3.out (fun k_ hk => ⟨trivial, fun e_ => hk e_⟩))); obtain ⟨oki18, ce18, hcl18, hM18, hcc18, hfr18, hoki18, hH18⟩ := Kd.S_elem HX18.out [] (x13_1 : Int) (of_decide_eq_true (by first | (with_reducible assumption) | assumption)) (by have h_ : (x13_1 : Int) < ((x3_1.length : Int) : Int) := of_decide_eq_true (by first | (with_reducible assumption) | assumption); first | exact h_ | (have e_ := (Kd.S_reads' HO_3.out).1; omega) | simpa using h_); obtain ⟨ve18_0, rfl, ge18_0⟩ := hM18; have HP18 := Kd.S_seg hH18 (of_decide_eq_true (by first | (with_reducible assumption) | assumption)) (by have h_ : (x13_1 : Int) < ((x3_1.length : Int) : Int) := of_decide_eq_true (by first | (with_reducible assumption) | assumption); first | exact h_ | (have e_ := (Kd.S_reads' HO_3.out).1; omega) | simpa using h_) (seg := [v112]) (j := 0) (show 1 ≤ 1 from by decide) (x' := t111) (Kd.M_row (Kd.R_mono (Kd.R_tight rfl (Kd.R_mono (ok' := fun k_ => ((fun _ => True)) k_ ∧ k_ ≠ go16) (Kd.R_apart' (HO113.out) (Kd.S_typed HO_3.out) (by decide)) (fun k_ hk => ⟨trivial, fun e_ => (hk.2) (by rw [e_]; rfl)⟩))) (fun _ h_ => Or.inr (h_)))) (fun _ hk => hk) (fun k_ hk_ => ((Kd.R_mono (ok' := fun k_ => ((fun _ => True)) k_ ∧ k_ ≠ go16) (Kd.R_apart' (HO113.out) (Kd.S_typed HO_3.out) (by decide)) (fun k_ hk => ⟨trivial, fun e_ => (hk.2) (by rw [e_]; rfl)⟩))).1 k_ hk_.symm); have hx18_0 := hcc18 0 _ rfl; (try simp only [show ((Kd.slice 5 (Kd.int .u8))).sz = 1 from rfl, Nat.mul_one, Nat.add_zero] at hx18_0); have hf18_0 := hfr18 0; (try simp only [show ((Kd.slice 5 (Kd.int .u8))).sz = 1 from rfl, Nat.mul_one, Nat.add_zero] at hf18_0); (try clear hcl18); (try clear hcc18); (try clear hfr18); (try clear hM18); (try clear hoki18); (try clear hH18); (try simp only [show ((Kd.slice 5 (Kd.int .u8))).sz = 1 from rfl, Nat.mul_one, Nat.add_zero] at HP18)) | ((with_reducible refine gate_store (t := 33) (p := 22) rfl ?_); refine store_event (t := 33) (p := 22) (v := ?vo_w19) (w1 := (w17.setCell ⟨go16, (x13_1 : Int).toNat, none⟩ (v112))) ?hg ?ho ?hn ?hr ?_; (case ho => rfl); (case hg => rfl); (case hn => rfl); (case hr => first | (go_simp; done) | (go_simp; rfl) | (obtain ⟨vA_, vc_, ev_⟩ := Kd.R_slice HO113.out; subst ev_; first | (go_simp; done) | (go_simp; rfl))); intro w19 hw; have hg : w17.grownBy w19 (some go16) := (by rw [hw]; exact HP18.2); have hp_ : Kd.S (Kd.slice 5 (Kd.int .u8)) 33 w19 w.heap.size (fun _ => True) (.slice (some ⟨go16, 0, none⟩) x3_1.length co16) y114 := (by rw [hw, Ny114.out]; exact HP18.1); clear HP18; have n0_ := Aside0.mk (hp_); have n1_ := Aside0.mk (blk_grown (g := gb105) (o := .cells #[.int .i64 a0_0, .int .i64 a0_1, .int .i64 a0_2, .int .i64 a0_3, .slice (some ad110) l0_4.length c0_4] 27 (0, 0)) (by first | exact BK105.out | (refine sO ?_; exact BK105.out)) hg (Kd.S_ne HO_3.out BK105.out (by decide))); have n2_ := Aside0.mk (blk_grown (g := gb106) (o := .cells #[.int .i64 0, .int .i64 0, .int .i64 0, .int .i64 0, .slice none 0 0] 27 (0, 0)) (by first | exact BK106.out | (refine sO ?_; exact BK106.out)) hg (Kd.S_ne HO_3.out BK106.out (by decide))); have n3_ := Aside0.mk ((by rw [hw]; exact below_set (HB.out) GB16.out : Below w.heap.size w w19)); clear HO_3; clear BK105; clear BK106; clear HB; clear HO113; have HO_3 := n0_; have BK105 := n1_; have BK106 := n2_; have HB := n3_; clear n0_ n1_ n2_ n3_; clear hg hw hp_))
         go_roundg k1
         case measure => have := HK1.out; omega
         case rel => exact ⟨(y114), (wrap64 (x13_1 + 1)), (by first | rfl | (simp; done) | (simp [*]; done)), H', ⟨by have := HK1.out; omega⟩, ⟨by (with_reducible repeat (first | apply Kd.S_alloc | apply Kd.S_drewN | apply Kd.S_drew)); exact HO_3.out⟩, ⟨by (try refine sO ?_); exact BK105.out⟩, ⟨by (try refine sO ?_); exact BK106.out⟩, ⟨by repeat (first | exact sH HB.out | refine sN (w := w) ?_ | with_reducible refine sG (w := w) ?_ (by assumption))⟩⟩
        ·
         rw [if_neg c15] at H
         exact absurd H (by simp)
       ·
        rw [if_neg c13] at H
        exact absurd H (by simp)
      ·
       rw [if_neg c12] at H
       exact absurd H (by simp)
     ·
      rw [if_neg c11] at H
      have c11b0 : decide (x13_1 < (l0_4.length : Int)) = false := decide_eq_false c11
      clear c11
      simp only [Option.some.injEq, Prod.mk.injEq] at H
      obtain ⟨rfl, rfl, rfl, rfl, rfl⟩ := H
      have hnb20 := NB105_106.out
      have hnc20 := NB106_105.out
      obtain ⟨hcz21_0, hcz21_1, hcz21_2, hcz21_3, hcz21_4, hfz21_0, hfz21_1, hfz21_2, hfz21_3, hfz21_4⟩ := cs5 BK105.out
      obtain ⟨Ao22, co22, eo22⟩ := Kd.S_slice HO_3.out
      subst eo22
      obtain ⟨hcz23_0, hcz23_1, hcz23_2, hcz23_3, hcz23_4, hfz23_0, hfz23_1, hfz23_2, hfz23_3, hfz23_4⟩ := cs5 BK106.out
      go_wp2
      refine bodyPost_ret (results_cell_row rfl _ _ gb106 27 #[.int .i64 a0_0, .int .i64 a0_1, .int .i64 a0_2, .int .i64 a0_3, .slice Ao22 x3_1.length co22] (0, 0) _ rfl (by (try refine sO ?_); refine blk_put (cs := #[.int .i64 a0_0, .int .i64 a0_1, .int .i64 a0_2, .int .i64 a0_3, .slice none 0 0]) ?_ 4 _ rfl; (try refine sO ?_); refine blk_put (cs := #[.int .i64 a0_0, .int .i64 a0_1, .int .i64 a0_2, .int .i64 0, .slice none 0 0]) ?_ 3 _ rfl; (try refine sO ?_); refine blk_put (cs := #[.int .i64 a0_0, .int .i64 a0_1, .int .i64 0, .int .i64 0, .slice none 0 0]) ?_ 2 _ rfl; (try refine sO ?_); refine blk_put (cs := #[.int .i64 a0_0, .int .i64 0, .int .i64 0, .int .i64 0, .slice none 0 0]) ?_ 1 _ rfl; (try refine sO ?_); refine blk_put (cs := #[.int .i64 0, .int .i64 0, .int .i64 0, .int .i64 0, .slice none 0 0]) ?_ 0 _ rfl; first | exact BK106.out | (refine sO ?_; exact BK106.out)) Try.underlying27 rfl (by kernel_rfl)) rfl ?_
      exact ⟨_, by first | rfl | (simp [errW_none, errW_some] <;> rfl) | (simp [*, errW_none, errW_some] <;> rfl), by (with_reducible repeat (first | apply Kd.S_alloc | apply Kd.S_drewN | apply Kd.S_drew)); exact Kd.S_mono (Kd.S_far (p := ⟨gb106, 4, none⟩) (Kd.S_far (p := ⟨gb106, 3, none⟩) (Kd.S_far (p := ⟨gb106, 2, none⟩) (Kd.S_far (p := ⟨gb106, 1, none⟩) (Kd.S_far (p := ⟨gb106, 0, none⟩) (Kd.S_types HO_3.out BK106.out (by decide)) (fun _ hk => hk.2) (.int .i64 a0_0)) (fun _ hk => hk.2) (.int .i64 a0_1)) (fun _ hk => hk.2) (.int .i64 a0_2)) (fun _ hk => hk.2) (.int .i64 a0_3)) (fun _ hk => hk.2) (.slice Ao22 x3_1.length co22)) (fun _ hk => trivial), by repeat (first | exact sH HB.out | refine sN (w := w) ?_ | with_reducible refine sG (w := w) ?_ (by assumption))⟩
  ·
   rw [if_neg c3] at H
   exact absurd H (by simp)
 ·
  rw [if_neg c2] at H
  exact absurd H (by simp)

/-- May parameters be? -/
def okP (a b c d : Int) : Bool := decide (1 ≤ a ∧ a ≤ 12 ∧ 0 ≤ b ∧ b ≤ 4 ∧ 8 ≤ c ∧ c ≤ 64 ∧ 32 ≤ a * c ∧ 8 ≤ d ∧ d ≤ 256)
theorem okP_iff {a b c d : Int} : okP a b c d = true ↔ (1 ≤ a ∧ a ≤ 12 ∧ 0 ≤ b ∧ b ≤ 4 ∧ 8 ≤ c ∧ c ≤ 64 ∧ 32 ≤ a * c ∧ 8 ≤ d ∧ d ≤ 256) := by simp [okP]
theorem mul_small {a c : Int} (h1 : 1 ≤ a) (h2 : a ≤ 12) (h3 : 8 ≤ c) (h4 : c ≤ 64) : 8 ≤ a * c ∧ a * c ≤ 768 := by
 have l : 1 * c ≤ a * c := Int.mul_le_mul_of_nonneg_right h1 (by omega)
 have r : a * c ≤ 12 * c := Int.mul_le_mul_of_nonneg_right h2 (by omega)
 omega
def layout_Check.f (a0_0 : Int) (a0_1 : Int) (a0_2 : Int) (a0_3 : Int) : Option Int := some (if okP a0_0 a0_1 a0_2 a0_3 = true then 0 else 2)
set_option maxHeartbeats 8000000 in
set_option maxRecDepth 100000 in
theorem layout_Check.calls (a0_0 : Int) (a0_1 : Int) (a0_2 : Int) (a0_3 : Int) (r : Int) (w : World) (h : layout_Check.f a0_0 a0_1 a0_2 a0_3 = some r) :
  Calls Try.prog 61 #[.agg #[.int .i64 a0_0, .int .i64 a0_1, .int .i64 a0_2, .int .i64 a0_3]] w fun e w' => e = .returned (.int .i64 r) ∧ Below w.heap.size w w' := by
 have hu23 := Try.underlying24
 have HB := Aside0.mk (Below.refl w.heap.size w)
 obtain rfl : (if okP a0_0 a0_1 a0_2 a0_3 = true then 0 else 2) = r := by simpa [layout_Check.f] using h
 clear h
 by_cases c0 : a0_0 < 1
 ·
  rw [if_neg (by rw [okP_iff]; omega)]
  go_enter Try.func61, Try.ntmps61
  go_wp2_with (((with_reducible refine gate_dst (N := 1) rfl ?_); refine box_event rfl (N := 1) rfl (cs := #[.int .i64 a0_0, .int .i64 a0_1, .int .i64 a0_2, .int .i64 a0_3]) (t := 24) (by go_simp; try rfl) ?_; intro g1 hg w1 hbox hb; have BKg1 := Aside0.mk (hbox); have GEg1 := Aside0.mk ((by rw [hg]; exact (sZ HB)) : w.heap.size ≤ g1); replace HB := kH HB hb; clear hb hbox hg; obtain ⟨hca_g1_0, hca_g1_1, hca_g1_2, hca_g1_3, hfa_g1_0, hfa_g1_1, hfa_g1_2, hfa_g1_3⟩ := cs4 BKg1.out))
  go_ret
  exact ⟨rfl, HB.out⟩
 by_cases c1 : a0_0 > 12
 ·
  rw [if_neg (by rw [okP_iff]; omega)]
  go_enter Try.func61, Try.ntmps61
  go_wp2_with (((with_reducible refine gate_dst (N := 1) rfl ?_); refine box_event rfl (N := 1) rfl (cs := #[.int .i64 a0_0, .int .i64 a0_1, .int .i64 a0_2, .int .i64 a0_3]) (t := 24) (by go_simp; try rfl) ?_; intro g1 hg w1 hbox hb; have BKg1 := Aside0.mk (hbox); have GEg1 := Aside0.mk ((by rw [hg]; exact (sZ HB)) : w.heap.size ≤ g1); replace HB := kH HB hb; clear hb hbox hg; obtain ⟨hca_g1_0, hca_g1_1, hca_g1_2, hca_g1_3, hfa_g1_0, hfa_g1_1, hfa_g1_2, hfa_g1_3⟩ := cs4 BKg1.out))
  go_ret
  exact ⟨rfl, HB.out⟩
 by_cases c2 : a0_1 < 0
 ·
  rw [if_neg (by rw [okP_iff]; omega)]
  go_enter Try.func61, Try.ntmps61
  go_wp2_with (((with_reducible refine gate_dst (N := 1) rfl ?_); refine box_event rfl (N := 1) rfl (cs := #[.int .i64 a0_0, .int .i64 a0_1, .int .i64 a0_2, .int .i64 a0_3]) (t := 24) (by go_simp; try rfl) ?_; intro g1 hg w1 hbox hb; have BKg1 := Aside0.mk (hbox); have GEg1 := Aside0.mk ((by rw [hg]; exact (sZ HB)) : w.heap.size ≤ g1); replace HB := kH HB hb; clear hb hbox hg; obtain ⟨hca_g1_0, hca_g1_1, hca_g1_2, hca_g1_3, hfa_g1_0, hfa_g1_1, hfa_g1_2, hfa_g1_3⟩ := cs4 BKg1.out))
  go_ret
  exact ⟨rfl, HB.out⟩
 by_cases c3 : a0_1 > 4
 ·
  rw [if_neg (by rw [okP_iff]; omega)]
  go_enter Try.func61, Try.ntmps61
  go_wp2_with (((with_reducible refine gate_dst (N := 1) rfl ?_); refine box_event rfl (N := 1) rfl (cs := #[.int .i64 a0_0, .int .i64 a0_1, .int .i64 a0_2, .int .i64 a0_3]) (t := 24) (by go_simp; try rfl) ?_; intro g1 hg w1 hbox hb; have BKg1 := Aside0.mk (hbox); have GEg1 := Aside0.mk ((by rw [hg]; exact (sZ HB)) : w.heap.size ≤ g1); replace HB := kH HB hb; clear hb hbox hg; obtain ⟨hca_g1_0, hca_g1_1, hca_g1_2, hca_g1_3, hfa_g1_0, hfa_g1_1, hfa_g1_2, hfa_g1_3⟩ := cs4 BKg1.out))
  go_ret
  exact ⟨rfl, HB.out⟩
 by_cases c4 : a0_2 < 8
 ·
  rw [if_neg (by rw [okP_iff]; omega)]
  go_enter Try.func61, Try.ntmps61
  go_wp2_with (((with_reducible refine gate_dst (N := 1) rfl ?_); refine box_event rfl (N := 1) rfl (cs := #[.int .i64 a0_0, .int .i64 a0_1, .int .i64 a0_2, .int .i64 a0_3]) (t := 24) (by go_simp; try rfl) ?_; intro g1 hg w1 hbox hb; have BKg1 := Aside0.mk (hbox); have GEg1 := Aside0.mk ((by rw [hg]; exact (sZ HB)) : w.heap.size ≤ g1); replace HB := kH HB hb; clear hb hbox hg; obtain ⟨hca_g1_0, hca_g1_1, hca_g1_2, hca_g1_3, hfa_g1_0, hfa_g1_1, hfa_g1_2, hfa_g1_3⟩ := cs4 BKg1.out))
  go_ret
  exact ⟨rfl, HB.out⟩
 by_cases c5 : a0_2 > 64
 ·
  rw [if_neg (by rw [okP_iff]; omega)]
  go_enter Try.func61, Try.ntmps61
  go_wp2_with (((with_reducible refine gate_dst (N := 1) rfl ?_); refine box_event rfl (N := 1) rfl (cs := #[.int .i64 a0_0, .int .i64 a0_1, .int .i64 a0_2, .int .i64 a0_3]) (t := 24) (by go_simp; try rfl) ?_; intro g1 hg w1 hbox hb; have BKg1 := Aside0.mk (hbox); have GEg1 := Aside0.mk ((by rw [hg]; exact (sZ HB)) : w.heap.size ≤ g1); replace HB := kH HB hb; clear hb hbox hg; obtain ⟨hca_g1_0, hca_g1_1, hca_g1_2, hca_g1_3, hfa_g1_0, hfa_g1_1, hfa_g1_2, hfa_g1_3⟩ := cs4 BKg1.out))
  go_ret
  exact ⟨rfl, HB.out⟩
 by_cases c6 : a0_3 < 8
 ·
  rw [if_neg (by rw [okP_iff]; omega)]
  go_enter Try.func61, Try.ntmps61
  go_wp2_with (((with_reducible refine gate_dst (N := 1) rfl ?_); refine box_event rfl (N := 1) rfl (cs := #[.int .i64 a0_0, .int .i64 a0_1, .int .i64 a0_2, .int .i64 a0_3]) (t := 24) (by go_simp; try rfl) ?_; intro g1 hg w1 hbox hb; have BKg1 := Aside0.mk (hbox); have GEg1 := Aside0.mk ((by rw [hg]; exact (sZ HB)) : w.heap.size ≤ g1); replace HB := kH HB hb; clear hb hbox hg; obtain ⟨hca_g1_0, hca_g1_1, hca_g1_2, hca_g1_3, hfa_g1_0, hfa_g1_1, hfa_g1_2, hfa_g1_3⟩ := cs4 BKg1.out))
  go_ret
  exact ⟨rfl, HB.out⟩
 by_cases c7 : a0_3 > 256
 ·
  rw [if_neg (by rw [okP_iff]; omega)]
  go_enter Try.func61, Try.ntmps61
  go_wp2_with (((with_reducible refine gate_dst (N := 1) rfl ?_); refine box_event rfl (N := 1) rfl (cs := #[.int .i64 a0_0, .int .i64 a0_1, .int .i64 a0_2, .int .i64 a0_3]) (t := 24) (by go_simp; try rfl) ?_; intro g1 hg w1 hbox hb; have BKg1 := Aside0.mk (hbox); have GEg1 := Aside0.mk ((by rw [hg]; exact (sZ HB)) : w.heap.size ≤ g1); replace HB := kH HB hb; clear hb hbox hg; obtain ⟨hca_g1_0, hca_g1_1, hca_g1_2, hca_g1_3, hfa_g1_0, hfa_g1_1, hfa_g1_2, hfa_g1_3⟩ := cs4 BKg1.out))
  go_ret
  exact ⟨rfl, HB.out⟩
 obtain ⟨ml, mr⟩ := mul_small (show 1 ≤ a0_0 by omega) (show a0_0 ≤ 12 by omega) (show 8 ≤ a0_2 by omega) (show a0_2 ≤ 64 by omega)
 by_cases cm : a0_0 * a0_2 < 32
 ·
  rw [if_neg (by rw [okP_iff]; omega)]
  go_enter Try.func61, Try.ntmps61
  go_wp2_with (((with_reducible refine gate_dst (N := 1) rfl ?_); refine box_event rfl (N := 1) rfl (cs := #[.int .i64 a0_0, .int .i64 a0_1, .int .i64 a0_2, .int .i64 a0_3]) (t := 24) (by go_simp; try rfl) ?_; intro g1 hg w1 hbox hb; have BKg1 := Aside0.mk (hbox); have GEg1 := Aside0.mk ((by rw [hg]; exact (sZ HB)) : w.heap.size ≤ g1); replace HB := kH HB hb; clear hb hbox hg; obtain ⟨hca_g1_0, hca_g1_1, hca_g1_2, hca_g1_3, hfa_g1_0, hfa_g1_1, hfa_g1_2, hfa_g1_3⟩ := cs4 BKg1.out))
  go_ret
  exact ⟨rfl, HB.out⟩
 ·
  rw [if_pos (by rw [okP_iff]; omega)]
  go_enter Try.func61, Try.ntmps61
  go_wp2_with (((with_reducible refine gate_dst (N := 1) rfl ?_); refine box_event rfl (N := 1) rfl (cs := #[.int .i64 a0_0, .int .i64 a0_1, .int .i64 a0_2, .int .i64 a0_3]) (t := 24) (by go_simp; try rfl) ?_; intro g1 hg w1 hbox hb; have BKg1 := Aside0.mk (hbox); have GEg1 := Aside0.mk ((by rw [hg]; exact (sZ HB)) : w.heap.size ≤ g1); replace HB := kH HB hb; clear hb hbox hg; obtain ⟨hca_g1_0, hca_g1_1, hca_g1_2, hca_g1_3, hfa_g1_0, hfa_g1_1, hfa_g1_2, hfa_g1_3⟩ := cs4 BKg1.out))
  go_ret
  exact ⟨rfl, HB.out⟩
set_option maxHeartbeats 8000000 in
set_option maxRecDepth 100000 in
theorem layout_of.bad (F : Value) (a0_0 : Int) (a0_1 : Int) (a0_2 : Int) (a0_3 : Int) (w : World) (hk : okP a0_0 a0_1 a0_2 a0_3 = false) :
  Calls Try.prog 56 #[.agg #[.int .i64 a0_0, .int .i64 a0_1, .int .i64 a0_2, .int .i64 a0_3], F] w fun e w' => e = .returned (.tuple #[.int .i64 0, .int .i64 2]) ∧ Below w.heap.size w w' := by
 have hu23 := Try.underlying24
 have HC := Aside0.mk (show layout_Check.f a0_0 a0_1 a0_2 a0_3 = some 2 by simp [layout_Check.f, hk])
 clear hk
 have HB := Aside0.mk (Below.refl w.heap.size w)
 go_enter Try.func56, Try.ntmps56
 go_wp2_with (first | ((with_reducible refine gate_dst (N := 2) rfl ?_); refine box_event rfl (N := 2) rfl (cs := #[.int .i64 a0_0, .int .i64 a0_1, .int .i64 a0_2, .int .i64 a0_3]) (t := 24) (by go_simp; try rfl) ?_; intro g1 hg w1 hbox hb; have BKg1 := Aside0.mk (hbox); have GEg1 := Aside0.mk ((by rw [hg]; exact (sZ HB)) : w.heap.size ≤ g1); replace HB := kH HB hb; clear hb hbox hg; obtain ⟨hca_g1_0, hca_g1_1, hca_g1_2, hca_g1_3, hfa_g1_0, hfa_g1_1, hfa_g1_2, hfa_g1_3⟩ := cs4 BKg1.out) | (go_at_call 61; refine (layout_Check.calls a0_0 a0_1 a0_2 a0_3 2 _ HC.out).mono ?_; rintro e w2 ⟨rfl, hb⟩; have BK2 := Aside0.mk (blk_below BKg1.out hb); have HB2 := Aside0.mk (below_step HB.out hb); clear hb HB BKg1; have HB := HB2; have BKg1 := BK2; clear HB2 BK2; obtain ⟨hcb_g1_0, hcb_g1_1, hcb_g1_2, hcb_g1_3, hfb_g1_0, hfb_g1_1, hfb_g1_2, hfb_g1_3⟩ := cs4 BKg1.out))
 go_ret2
 exact ⟨rfl, HB.out⟩

def layout_drives.f (a0_0 : Int) (a0_1 : Int) (a0_2 : Int) (a0_3 : Int) : Option (Int) := some (wrap64 (a0_0 + a0_1))
set_option maxHeartbeats 8000000 in
set_option maxRecDepth 100000 in
theorem layout_drives.calls (a0_0 : Int) (a0_1 : Int) (a0_2 : Int) (a0_3 : Int) (r : Int) (w : World) (h : layout_drives.f a0_0 a0_1 a0_2 a0_3 = some r) :
  Calls Try.prog 57 #[.agg #[.int .i64 a0_0, .int .i64 a0_1, .int .i64 a0_2, .int .i64 a0_3]] w fun e w' => e = .returned (.int .i64 r) ∧ Below w.heap.size w w' := by
 have hu24 := Try.underlying24
 have HB := Aside0.mk (Below.refl w.heap.size w)
 have H : (some (wrap64 (a0_0 + a0_1))) = some r := h
 clear h
 obtain rfl := Option.some.inj H
 go_enter Try.func57, Try.ntmps57
 go_wp2_with (first | ((with_reducible refine gate_dst (N := 1) rfl ?_); refine box_event rfl (N := 1) rfl (cs := #[.int .i64 a0_0, .int .i64 a0_1, .int .i64 a0_2, .int .i64 a0_3]) (t := 24) (by go_simp; try rfl) ?_; intro gb115 hg w2 hbox hb; have BK115 := Aside0.mk (hbox); have GW115 := Aside0.mk ((by rw [hg]; exact (sZ HB) : w.heap.size ≤ gb115)); have GE115 := Aside0.mk ((by rw [hg]; exact (sZ HB) : w.heap.size ≤ gb115)); replace HB := kH HB hb; clear hb hbox hg; obtain ⟨hcz3_0, hcz3_1, hcz3_2, hcz3_3, hfz3_0, hfz3_1, hfz3_2, hfz3_3⟩ := cs4 BK115.out))
 go_ret
 exact ⟨by first | rfl | (simp [errW_none, errW_some] <;> rfl) | (simp [*, errW_none, errW_some] <;> rfl), by repeat (first | exact sH HB.out | refine sN (w := w) ?_ | with_reducible refine sG (w := w) ?_ (by assumption))⟩

set_option maxHeartbeats 8000000 in
set_option maxRecDepth 100000 in
theorem layout_of.drives (a0_0 : Int) (a0_1 : Int) (a0_2 : Int) (a0_3 : Int) (v : Int) (w : World) (hk : okP a0_0 a0_1 a0_2 a0_3 = true) (hv : layout_drives.f a0_0 a0_1 a0_2 a0_3 = some v) :
  Calls Try.prog 56 #[.agg #[.int .i64 a0_0, .int .i64 a0_1, .int .i64 a0_2, .int .i64 a0_3], .func (.func 57) #[] #[]] w fun e w' => e = .returned (.tuple #[.int .i64 v, .int .i64 0]) ∧ Below w.heap.size w w' := by
 have hu23 := Try.underlying24
 have HC := Aside0.mk (show layout_Check.f a0_0 a0_1 a0_2 a0_3 = some 0 by simp [layout_Check.f, hk])
 have HV := Aside0.mk hv
 clear hk hv
 have HB := Aside0.mk (Below.refl w.heap.size w)
 go_enter Try.func56, Try.ntmps56
 go_wp2_with (first | ((with_reducible refine gate_dst (N := 2) rfl ?_); refine box_event rfl (N := 2) rfl (cs := #[.int .i64 a0_0, .int .i64 a0_1, .int .i64 a0_2, .int .i64 a0_3]) (t := 24) (by go_simp; try rfl) ?_; intro g1 hg w1 hbox hb; have BKg1 := Aside0.mk (hbox); have GEg1 := Aside0.mk ((by rw [hg]; exact (sZ HB)) : w.heap.size ≤ g1); replace HB := kH HB hb; clear hb hbox hg; obtain ⟨hca_g1_0, hca_g1_1, hca_g1_2, hca_g1_3, hfa_g1_0, hfa_g1_1, hfa_g1_2, hfa_g1_3⟩ := cs4 BKg1.out) | (go_at_call 61; refine (layout_Check.calls a0_0 a0_1 a0_2 a0_3 0 _ HC.out).mono ?_; rintro e w2 ⟨rfl, hb⟩; have BK2 := Aside0.mk (blk_below BKg1.out hb); have HB2 := Aside0.mk (below_step HB.out hb); clear hb HB BKg1; have HB := HB2; have BKg1 := BK2; clear HB2 BK2; obtain ⟨hcb_g1_0, hcb_g1_1, hcb_g1_2, hcb_g1_3, hfb_g1_0, hfb_g1_1, hfb_g1_2, hfb_g1_3⟩ := cs4 BKg1.out) | (go_at_call 57; refine (layout_drives.calls a0_0 a0_1 a0_2 a0_3 v _ HV.out).mono ?_; rintro e w3 ⟨rfl, hb⟩; have BK2 := Aside0.mk (blk_below BKg1.out hb); have HB2 := Aside0.mk (below_step HB.out hb); clear hb HB BKg1; have HB := HB2; have BKg1 := BK2; clear HB2 BK2))
 go_ret2
 exact ⟨rfl, HB.out⟩
def layout_Drives.f (a0_0 : Int) (a0_1 : Int) (a0_2 : Int) (a0_3 : Int) : Option (Int × Int) := some (if okP a0_0 a0_1 a0_2 a0_3 = true then (a0_0 + a0_1, 0) else (0, 2))
theorem layout_drives.ev (a0_0 : Int) (a0_1 : Int) (a0_2 : Int) (a0_3 : Int) (hk : okP a0_0 a0_1 a0_2 a0_3 = true) : layout_drives.f a0_0 a0_1 a0_2 a0_3 = some (a0_0 + a0_1) := by
 obtain ⟨h1, h2, h3, h4, h5, h6, h7, h8, h9⟩ := okP_iff.mp hk
 obtain ⟨ml, mr⟩ := mul_small h1 h2 h5 h6
 have e : wrap64 (a0_0 + a0_1) = a0_0 + a0_1 := by unfold wrap64; omega
 simp only [layout_drives.f, e]
set_option maxHeartbeats 8000000 in
set_option maxRecDepth 100000 in
theorem layout_Drives.calls (a0_0 : Int) (a0_1 : Int) (a0_2 : Int) (a0_3 : Int) (r1 : Int) (r2 : Int) (w : World) (h : layout_Drives.f a0_0 a0_1 a0_2 a0_3 = some (r1, r2)) :
  Calls Try.prog 39 #[.agg #[.int .i64 a0_0, .int .i64 a0_1, .int .i64 a0_2, .int .i64 a0_3]] w fun e w' => e = .returned (.tuple #[.int .i64 r1, .int .i64 r2]) ∧ Below w.heap.size w w' := by
 have hu23 := Try.underlying24
 have HB := Aside0.mk (Below.refl w.heap.size w)
 unfold layout_Drives.f at h
 by_cases hk : okP a0_0 a0_1 a0_2 a0_3 = true
 ·
  rw [if_pos hk] at h
  obtain ⟨rfl, rfl⟩ : a0_0 + a0_1 = r1 ∧ 0 = r2 := by simpa using h
  have HV := Aside0.mk (layout_drives.ev a0_0 a0_1 a0_2 a0_3 hk)
  have HK := Aside0.mk hk
  clear hk h
  go_enter Try.func39, Try.ntmps39
  go_wp2_with (first | ((with_reducible refine gate_dst (N := 1) rfl ?_); refine box_event rfl (N := 1) rfl (cs := #[.int .i64 a0_0, .int .i64 a0_1, .int .i64 a0_2, .int .i64 a0_3]) (t := 24) (by go_simp; try rfl) ?_; intro g1 hg w1 hbox hb; have BKg1 := Aside0.mk (hbox); have GEg1 := Aside0.mk ((by rw [hg]; exact (sZ HB)) : w.heap.size ≤ g1); replace HB := kH HB hb; clear hb hbox hg; obtain ⟨hca_g1_0, hca_g1_1, hca_g1_2, hca_g1_3, hfa_g1_0, hfa_g1_1, hfa_g1_2, hfa_g1_3⟩ := cs4 BKg1.out) | (go_at_call 56; refine (layout_of.drives a0_0 a0_1 a0_2 a0_3 _ _ HK.out HV.out).mono ?_; rintro e w3 ⟨rfl, hb⟩; have BK2 := Aside0.mk (blk_below BKg1.out hb); have HB2 := Aside0.mk (below_step HB.out hb); clear hb HB BKg1; have HB := HB2; have BKg1 := BK2; clear HB2 BK2))
  go_ret2
  exact ⟨rfl, HB.out⟩
 ·
  rw [if_neg hk] at h
  obtain ⟨rfl, rfl⟩ : 0 = r1 ∧ 2 = r2 := by simpa using h
  have HK := Aside0.mk (show okP a0_0 a0_1 a0_2 a0_3 = false by simpa using hk)
  clear hk h
  go_enter Try.func39, Try.ntmps39
  go_wp2_with (first | ((with_reducible refine gate_dst (N := 1) rfl ?_); refine box_event rfl (N := 1) rfl (cs := #[.int .i64 a0_0, .int .i64 a0_1, .int .i64 a0_2, .int .i64 a0_3]) (t := 24) (by go_simp; try rfl) ?_; intro g1 hg w1 hbox hb; have BKg1 := Aside0.mk (hbox); have GEg1 := Aside0.mk ((by rw [hg]; exact (sZ HB)) : w.heap.size ≤ g1); replace HB := kH HB hb; clear hb hbox hg; obtain ⟨hca_g1_0, hca_g1_1, hca_g1_2, hca_g1_3, hfa_g1_0, hfa_g1_1, hfa_g1_2, hfa_g1_3⟩ := cs4 BKg1.out) | (go_at_call 56; refine (layout_of.bad _ a0_0 a0_1 a0_2 a0_3 _ HK.out).mono ?_; rintro e w3 ⟨rfl, hb⟩; have BK2 := Aside0.mk (blk_below BKg1.out hb); have HB2 := Aside0.mk (below_step HB.out hb); clear hb HB BKg1; have HB := HB2; have BKg1 := BK2; clear HB2 BK2))
  go_ret2
  exact ⟨rfl, HB.out⟩

def image_Check.l0 : Nat → List (List Int) → Int → Int → Int → Int → Int → Int → List (List Int) → Option (Int)
 | 0, _, _, _, _, _, _, _, _ => none
 | k + 1, x27, x28, x29, x117000, x117001, x117002, x117003, x117004 => if x29 < x28 then (if 0 ≤ x29 then (if x29 < (x27.length : Int) then (if ((rd_L1 x27 x29).length : Int) = 0 then (image_Check.l0 k x27 x28 (wrap64 (x29 + 1)) x117000 x117001 x117002 x117003 x117004) else ((image_size.f x117000 x117001 x117002 x117003).bind fun t120 => (if ((rd_L1 x27 x29).length : Int) = t120 then (image_Check.l0 k x27 x28 (wrap64 (x29 + 1)) x117000 x117001 x117002 x117003 x117004) else (some 90)))) else (none)) else (none)) else (some 0)
def image_Check.f (k : Nat) (a0_0 : Int) (a0_1 : Int) (a0_2 : Int) (a0_3 : Int) (l0_4 : List (List Int)) : Option (Int) := (layout_Drives.f a0_0 a0_1 a0_2 a0_3).bind fun bt117 => (if bt117.2 = 0 then (if (l0_4.length : Int) = (wrap64 ((wrap64 (bt117.1 * a0_3)) * 2)) then (image_Check.l0 k l0_4 (l0_4.length : Int) 0 a0_0 a0_1 a0_2 a0_3 l0_4) else (some 90)) else (some bt117.2))
set_option maxHeartbeats 8000000 in
set_option maxRecDepth 100000 in
theorem image_Check.calls (k : Nat) (a0_0 : Int) (a0_1 : Int) (a0_2 : Int) (a0_3 : Int) (A0_4 : Option Addr) (c0_4 : Nat) (l0_4 : List (List Int)) (r : Int) (w : World) (hr0_4 : Kd.C (Kd.slice 5 (Kd.int .u8)) w A0_4 l0_4.length l0_4) (hc0_4 : l0_4.length ≤ c0_4) (h : image_Check.f k a0_0 a0_1 a0_2 a0_3 l0_4 = some r) :
  Calls Try.prog 17 #[.agg #[.int .i64 a0_0, .int .i64 a0_1, .int .i64 a0_2, .int .i64 a0_3, .slice A0_4 l0_4.length c0_4]] w fun e w' => e = .returned (.int .i64 r) ∧ Below w.heap.size w w' := by
 have hu27 := Try.underlying27
 have hu24 := Try.underlying24
 have HR0_4 := Aside0.mk hr0_4
 have HC0_4 := Aside0.mk hc0_4
 clear hr0_4 hc0_4
 have HB := Aside0.mk (Below.refl w.heap.size w)
 have H : ((layout_Drives.f a0_0 a0_1 a0_2 a0_3).bind fun bt117 => (if bt117.2 = 0 then (if (l0_4.length : Int) = (wrap64 ((wrap64 (bt117.1 * a0_3)) * 2)) then (image_Check.l0 k l0_4 (l0_4.length : Int) 0 a0_0 a0_1 a0_2 a0_3 l0_4) else (some 90)) else (some bt117.2))) = some r := h
 clear h
 replace H := Option.bind_eq_some_iff.mp H
 obtain ⟨⟨t117, t118⟩, A20, H⟩ := H
 try dsimp only at H
 have A2 := Aside0.mk A20
 clear A20
 by_cases c3 : t118 = 0
 ·
  rw [if_pos c3] at H
  have c3b0 : (t118 == 0) = true := beq_iff_eq.mpr c3
  have c3b1 : (t118 != 0) = false := bne_eq_false_iff_eq.mpr c3
  clear c3
  by_cases c4 : (l0_4.length : Int) = (wrap64 ((wrap64 (t117 * a0_3)) * 2))
  ·
   rw [if_pos c4] at H
   have c4b0 : ((l0_4.length : Int) == (wrap64 ((wrap64 (t117 * a0_3)) * 2))) = true := beq_iff_eq.mpr c4
   have c4b1 : ((l0_4.length : Int) != (wrap64 ((wrap64 (t117 * a0_3)) * 2))) = false := bne_eq_false_iff_eq.mpr c4
   clear c4
   have H' := Aside0.mk H
   clear H
   go_enter Try.func17, Try.ntmps17
   go_wp2_with (first | ((with_reducible refine gate_dst (N := 1) rfl ?_); (try (refine gate_guard (by rfl) ?_; dsimp only)); refine box_event rfl (N := 1) rfl (cs := #[.int .i64 a0_0, .int .i64 a0_1, .int .i64 a0_2, .int .i64 a0_3, .slice A0_4 l0_4.length c0_4]) (t := 27) (by go_simp; try rfl) ?_; intro gb116 hg w5 hbox hb; have BK116 := Aside0.mk (hbox); have GW116 := Aside0.mk ((by rw [hg]; exact (sZ HB) : w.heap.size ≤ gb116)); have GE116 := Aside0.mk ((by rw [hg]; exact (sZ HB) : w.heap.size ≤ gb116)); replace HB := kH HB hb; clear hb hbox hg; obtain ⟨hcz6_0, hcz6_1, hcz6_2, hcz6_3, hcz6_4, hfz6_0, hfz6_1, hfz6_2, hfz6_3, hfz6_4⟩ := cs5 BK116.out) | ((with_reducible refine gate_callee (f := 39) rfl ?_); refine goesL_ (some 10) rfl rfl Try.func39 (by kernel_rfl) rfl #[.agg #[.int .i64 a0_0, .int .i64 a0_1, .int .i64 a0_2, .int .i64 a0_3]] rfl (by (try simp only [sM]); first | done | rfl | (simp only [sT]; rfl)) ?_; (with_reducible refine (layout_Drives.calls a0_0 a0_1 a0_2 a0_3 t117 t118 _ A2.out).mono ?_); rintro e w7 ⟨rfl, hb⟩; refine ⟨_, rfl, ?_⟩; replace BK116 := kB BK116 hb; replace HB := Aside0.mk (below_step (by repeat (first | exact sH HB.out | refine sN (w := w) ?_ | with_reducible refine sG (w := w) ?_ (by assumption))) hb); (try clear hb); (try clear hb2); (try clear hk); (try clear hi); obtain ⟨hcz8_0, hcz8_1, hcz8_2, hcz8_3, hcz8_4, hfz8_0, hfz8_1, hfz8_2, hfz8_3, hfz8_4⟩ := cs5 BK116.out))
   go_loopg [29] k (fun kq v29 w' => ∃ (x29_1 : Int), v29 = .int .i64 x29_1 ∧ Aside0 (image_Check.l0 kq l0_4 (l0_4.length : Int) x29_1 a0_0 a0_1 a0_2 a0_3 l0_4 = some r) ∧ Aside0 (kq ≤ k) ∧ Aside0 (w'.heap[gb116]? = some (.cells #[.int .i64 a0_0, .int .i64 a0_1, .int .i64 a0_2, .int .i64 a0_3, (.slice A0_4 l0_4.length c0_4)] 27 (0, 0))) ∧ Aside0 (Below w.heap.size w w'))
   case atStart => exact ⟨(0), (by first | rfl | (simp; done) | (simp [*]; done)), H', ⟨Nat.le_refl _⟩, ⟨by (try refine sO ?_); exact BK116.out⟩, ⟨by repeat (first | exact sH HB.out | refine sN (w := w) ?_ | with_reducible refine sG (w := w) ?_ (by assumption))⟩⟩
   case round =>
    clear H'
    try clear c1
    try clear p2
    try clear c3
    try clear c3b0
    try clear c3b1
    try clear c4
    try clear c4b0
    try clear c4b1
    try clear p6
    try clear hcz6_0
    try clear hcz6_1
    try clear hcz6_2
    try clear hcz6_3
    try clear hcz6_4
    try clear hcz8_0
    try clear hcz8_1
    try clear hcz8_2
    try clear hcz8_3
    try clear hcz8_4
    try clear hfz6_0
    try clear hfz6_1
    try clear hfz6_2
    try clear hfz6_3
    try clear hfz6_4
    try clear hfz8_0
    try clear hfz8_1
    try clear hfz8_2
    try clear hfz8_3
    try clear hfz8_4
    obtain ⟨x29_1, rfl, HA, HK1, BK116, HB⟩ := hrel
    cases gk with
    | zero => exact absurd HA.out (by simp [image_Check.l0])
    | succ k1 =>
     have H := HA.out
     clear HA
     simp only [image_Check.l0] at H
     by_cases c9 : x29_1 < (l0_4.length : Int)
     ·
      rw [if_pos c9] at H
      have c9b0 : decide (x29_1 < (l0_4.length : Int)) = true := decide_eq_true c9
      clear c9
      by_cases c10 : 0 ≤ x29_1
      ·
       rw [if_pos c10] at H
       have c10b0 : decide (0 ≤ x29_1) = true := decide_eq_true c10
       clear c10
       by_cases c11 : x29_1 < (l0_4.length : Int)
       ·
        rw [if_pos c11] at H
        have c11b0 : decide (x29_1 < (l0_4.length : Int)) = true := decide_eq_true c11
        clear c11
        by_cases c12 : ((rd_L1 l0_4 x29_1).length : Int) = 0
        ·
         rw [if_pos c12] at H
         have c12b0 : (((rd_L1 l0_4 x29_1).length : Int) == 0) = true := beq_iff_eq.mpr c12
         have c12b1 : (((rd_L1 l0_4 x29_1).length : Int) != 0) = false := bne_eq_false_iff_eq.mpr c12
         clear c12
         have H' := Aside0.mk H
         clear H
         have p119 : 0 ≤ (x29_1 : Int) := of_decide_eq_true (by first | (with_reducible assumption) | assumption)
         have q119 : x29_1 < (l0_4.length : Int) := of_decide_eq_true (by first | (with_reducible assumption) | assumption)
         obtain ⟨ad119, A119_0, c119_0, e119, hx119_0, hl119_0, hi119_0⟩ := at_L1 HR0_4.out x29_1 p119 q119
         cases e119
         replace hx119_0 := (HB.out.cell (World.block_lt_of_cell? w _ hx119_0)).trans hx119_0
         have HR119_0 := Aside0.mk hi119_0
         have HC119_0 := Aside0.mk hl119_0
         clear hi119_0 hl119_0
         replace p119 := eq_true p119
         replace q119 := eq_true q119
         go_wp2
         go_roundg k1
         case measure => have := HK1.out; omega
         case rel => exact ⟨(wrap64 (x29_1 + 1)), (by first | rfl | (simp; done) | (simp [*]; done)), H', ⟨by have := HK1.out; omega⟩, ⟨by (try refine sO ?_); exact BK116.out⟩, ⟨by repeat (first | exact sH HB.out | refine sN (w := w) ?_ | with_reducible refine sG (w := w) ?_ (by assumption))⟩⟩
        ·
         rw [if_neg c12] at H
         have c12b0 : (((rd_L1 l0_4 x29_1).length : Int) == 0) = false := beq_eq_false_iff_ne.mpr c12
         have c12b1 : (((rd_L1 l0_4 x29_1).length : Int) != 0) = true := bne_iff_ne.mpr c12
         have c12b2 : ¬ ((rd_L1 l0_4 x29_1) = []) := fun h_ => c12 (by rw [h_]; rfl)
         replace H := Option.bind_eq_some_iff.mp H
         obtain ⟨t120, A130, H⟩ := H
         try dsimp only at H
         have A13 := Aside0.mk A130
         clear A130
         by_cases c14 : ((rd_L1 l0_4 x29_1).length : Int) = t120
         ·
          rw [if_pos c14] at H
          have c14b0 : (((rd_L1 l0_4 x29_1).length : Int) == t120) = true := beq_iff_eq.mpr c14
          have c14b1 : (((rd_L1 l0_4 x29_1).length : Int) != t120) = false := bne_eq_false_iff_eq.mpr c14
          clear c14
          have H' := Aside0.mk H
          clear H
          have p119 : 0 ≤ (x29_1 : Int) := of_decide_eq_true (by first | (with_reducible assumption) | assumption)
          have q119 : x29_1 < (l0_4.length : Int) := of_decide_eq_true (by first | (with_reducible assumption) | assumption)
          obtain ⟨ad119, A119_0, c119_0, e119, hx119_0, hl119_0, hi119_0⟩ := at_L1 HR0_4.out x29_1 p119 q119
          cases e119
          replace hx119_0 := (HB.out.cell (World.block_lt_of_cell? w _ hx119_0)).trans hx119_0
          have HR119_0 := Aside0.mk hi119_0
          have HC119_0 := Aside0.mk hl119_0
          clear hi119_0 hl119_0
          replace p119 := eq_true p119
          replace q119 := eq_true q119
          obtain ⟨hcz15_0, hcz15_1, hcz15_2, hcz15_3, hcz15_4, hfz15_0, hfz15_1, hfz15_2, hfz15_3, hfz15_4⟩ := cs5 BK116.out
          go_wp2_with (first | (go_at_call 48; (with_reducible refine (image_size.calls a0_0 a0_1 a0_2 a0_3 t120 _ A13.out).mono ?_); rintro e w16 ⟨rfl, hb⟩; replace BK116 := kB BK116 hb; replace HB := Aside0.mk (below_step (by repeat (first | exact sH HB.out | refine sN (w := w) ?_ | with_reducible refine sG (w := w) ?_ (by assumption))) hb); (try clear hb); (try clear hb2); (try clear hk); (try clear hi)))
          go_roundg k1
          case measure => have := HK1.out; omega
          case rel => exact ⟨(wrap64 (x29_1 + 1)), (by first | rfl | (simp; done) | (simp [*]; done)), H', ⟨by have := HK1.out; omega⟩, ⟨by (try refine sO ?_); exact BK116.out⟩, ⟨by repeat (first | exact sH HB.out | refine sN (w := w) ?_ | with_reducible refine sG (w := w) ?_ (by assumption))⟩⟩
         ·
          rw [if_neg c14] at H
          have c14b0 : (((rd_L1 l0_4 x29_1).length : Int) == t120) = false := beq_eq_false_iff_ne.mpr c14
          have c14b1 : (((rd_L1 l0_4 x29_1).length : Int) != t120) = true := bne_iff_ne.mpr c14
          obtain rfl := Option.some.inj H
          have p119 : 0 ≤ (x29_1 : Int) := of_decide_eq_true (by first | (with_reducible assumption) | assumption)
          have q119 : x29_1 < (l0_4.length : Int) := of_decide_eq_true (by first | (with_reducible assumption) | assumption)
          obtain ⟨ad119, A119_0, c119_0, e119, hx119_0, hl119_0, hi119_0⟩ := at_L1 HR0_4.out x29_1 p119 q119
          cases e119
          replace hx119_0 := (HB.out.cell (World.block_lt_of_cell? w _ hx119_0)).trans hx119_0
          have HR119_0 := Aside0.mk hi119_0
          have HC119_0 := Aside0.mk hl119_0
          clear hi119_0 hl119_0
          replace p119 := eq_true p119
          replace q119 := eq_true q119
          obtain ⟨hcz17_0, hcz17_1, hcz17_2, hcz17_3, hcz17_4, hfz17_0, hfz17_1, hfz17_2, hfz17_3, hfz17_4⟩ := cs5 BK116.out
          go_wp2_with (first | (go_at_call 48; (with_reducible refine (image_size.calls a0_0 a0_1 a0_2 a0_3 t120 _ A13.out).mono ?_); rintro e w18 ⟨rfl, hb⟩; replace BK116 := kB BK116 hb; replace HB := Aside0.mk (below_step (by repeat (first | exact sH HB.out | refine sN (w := w) ?_ | with_reducible refine sG (w := w) ?_ (by assumption))) hb); (try clear hb); (try clear hb2); (try clear hk); (try clear hi)))
          go_ret
          exact ⟨by first | rfl | (simp [errW_none, errW_some] <;> rfl) | (simp [*, errW_none, errW_some] <;> rfl), by repeat (first | exact sH HB.out | refine sN (w := w) ?_ | with_reducible refine sG (w := w) ?_ (by assumption))⟩
       ·
        rw [if_neg c11] at H
        exact absurd H (by simp)
      ·
       rw [if_neg c10] at H
       exact absurd H (by simp)
     ·
      rw [if_neg c9] at H
      have c9b0 : decide (x29_1 < (l0_4.length : Int)) = false := decide_eq_false c9
      clear c9
      obtain rfl := Option.some.inj H
      go_wp2
      go_ret
      exact ⟨by first | rfl | (simp [errW_none, errW_some] <;> rfl) | (simp [*, errW_none, errW_some] <;> rfl), by repeat (first | exact sH HB.out | refine sN (w := w) ?_ | with_reducible refine sG (w := w) ?_ (by assumption))⟩
  ·
   rw [if_neg c4] at H
   have c4b0 : ((l0_4.length : Int) == (wrap64 ((wrap64 (t117 * a0_3)) * 2))) = false := beq_eq_false_iff_ne.mpr c4
   have c4b1 : ((l0_4.length : Int) != (wrap64 ((wrap64 (t117 * a0_3)) * 2))) = true := bne_iff_ne.mpr c4
   obtain rfl := Option.some.inj H
   go_enter Try.func17, Try.ntmps17
   go_wp2_with (first | ((with_reducible refine gate_dst (N := 1) rfl ?_); (try (refine gate_guard (by rfl) ?_; dsimp only)); refine box_event rfl (N := 1) rfl (cs := #[.int .i64 a0_0, .int .i64 a0_1, .int .i64 a0_2, .int .i64 a0_3, .slice A0_4 l0_4.length c0_4]) (t := 27) (by go_simp; try rfl) ?_; intro gb116 hg w19 hbox hb; have BK116 := Aside0.mk (hbox); have GW116 := Aside0.mk ((by rw [hg]; exact (sZ HB) : w.heap.size ≤ gb116)); have GE116 := Aside0.mk ((by rw [hg]; exact (sZ HB) : w.heap.size ≤ gb116)); replace HB := kH HB hb; clear hb hbox hg; obtain ⟨hcz20_0, hcz20_1, hcz20_2, hcz20_3, hcz20_4, hfz20_0, hfz20_1, hfz20_2, hfz20_3, hfz20_4⟩ := cs5 BK116.out) | ((with_reducible refine gate_callee (f := 39) rfl ?_); refine goesL_ (some 10) rfl rfl Try.func39 (by kernel_rfl) rfl #[.agg #[.int .i64 a0_0, .int .i64 a0_1, .int .i64 a0_2, .int .i64 a0_3]] rfl (by (try simp only [sM]); first | done | rfl | (simp only [sT]; rfl)) ?_; (with_reducible refine (layout_Drives.calls a0_0 a0_1 a0_2 a0_3 t117 t118 _ A2.out).mono ?_); rintro e w21 ⟨rfl, hb⟩; refine ⟨_, rfl, ?_⟩; replace BK116 := kB BK116 hb; replace HB := Aside0.mk (below_step (by repeat (first | exact sH HB.out | refine sN (w := w) ?_ | with_reducible refine sG (w := w) ?_ (by assumption))) hb); (try clear hb); (try clear hb2); (try clear hk); (try clear hi); obtain ⟨hcz22_0, hcz22_1, hcz22_2, hcz22_3, hcz22_4, hfz22_0, hfz22_1, hfz22_2, hfz22_3, hfz22_4⟩ := cs5 BK116.out))
   go_ret
   exact ⟨by first | rfl | (simp [errW_none, errW_some] <;> rfl) | (simp [*, errW_none, errW_some] <;> rfl), by repeat (first | exact sH HB.out | refine sN (w := w) ?_ | with_reducible refine sG (w := w) ?_ (by assumption))⟩
 ·
  rw [if_neg c3] at H
  have c3b0 : (t118 == 0) = false := beq_eq_false_iff_ne.mpr c3
  have c3b1 : (t118 != 0) = true := bne_iff_ne.mpr c3
  obtain rfl := Option.some.inj H
  go_enter Try.func17, Try.ntmps17
  go_wp2_with (first | ((with_reducible refine gate_dst (N := 1) rfl ?_); (try (refine gate_guard (by rfl) ?_; dsimp only)); refine box_event rfl (N := 1) rfl (cs := #[.int .i64 a0_0, .int .i64 a0_1, .int .i64 a0_2, .int .i64 a0_3, .slice A0_4 l0_4.length c0_4]) (t := 27) (by go_simp; try rfl) ?_; intro gb116 hg w23 hbox hb; have BK116 := Aside0.mk (hbox); have GW116 := Aside0.mk ((by rw [hg]; exact (sZ HB) : w.heap.size ≤ gb116)); have GE116 := Aside0.mk ((by rw [hg]; exact (sZ HB) : w.heap.size ≤ gb116)); replace HB := kH HB hb; clear hb hbox hg; obtain ⟨hcz24_0, hcz24_1, hcz24_2, hcz24_3, hcz24_4, hfz24_0, hfz24_1, hfz24_2, hfz24_3, hfz24_4⟩ := cs5 BK116.out) | ((with_reducible refine gate_callee (f := 39) rfl ?_); refine goesL_ (some 10) rfl rfl Try.func39 (by kernel_rfl) rfl #[.agg #[.int .i64 a0_0, .int .i64 a0_1, .int .i64 a0_2, .int .i64 a0_3]] rfl (by (try simp only [sM]); first | done | rfl | (simp only [sT]; rfl)) ?_; (with_reducible refine (layout_Drives.calls a0_0 a0_1 a0_2 a0_3 t117 t118 _ A2.out).mono ?_); rintro e w25 ⟨rfl, hb⟩; refine ⟨_, rfl, ?_⟩; replace BK116 := kB BK116 hb; replace HB := Aside0.mk (below_step (by repeat (first | exact sH HB.out | refine sN (w := w) ?_ | with_reducible refine sG (w := w) ?_ (by assumption))) hb); (try clear hb); (try clear hb2); (try clear hk); (try clear hi)))
  go_ret
  exact ⟨by first | rfl | (simp [errW_none, errW_some] <;> rfl) | (simp [*, errW_none, errW_some] <;> rfl), by repeat (first | exact sH HB.out | refine sN (w := w) ?_ | with_reducible refine sG (w := w) ?_ (by assumption))⟩

end Go.Proofs.Ytcnmocbiekfpbaa.P

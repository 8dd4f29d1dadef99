-- Written by a program of this session, after the kit's print.
import Derived.Test.YtcnmocbiekfpbaaPx0
import Derived.Test.YtcnmocbiekfpbaaP0Short
namespace Go.Proofs.Ytcnmocbiekfpbaa.P
open Go.RowKit Go.Proofs.YtcnmocbiekfpbaaW.PrintWords Go.Proofs.YtcnmocbiekfpbaaW.PrintLast Go.Proofs.YtcnmocbiekfpbaaW.PrintMore
attribute [local go_sem] max2_int min2_int max_two min_two max_three min_three max_four min_four   -- for this text's walks alone
set_option linter.unusedVariables false
set_option linter.unusedSimpArgs false

def twoslotlaw09_much.f (a0_0 : Int) (a0_1 : Int) (a0_2 : Int) (a0_3 : Int) (l0_4 : List (List Int)) : Option (Bool) := some (decide ((l0_4.length : Int) > 2000))
set_option maxHeartbeats 8000000 in
set_option maxRecDepth 100000 in
theorem twoslotlaw09_much.calls (a0_0 : Int) (a0_1 : Int) (a0_2 : Int) (a0_3 : Int) (A0_4 : Option Addr) (c0_4 : Nat) (l0_4 : List (List Int)) (r : Bool) (w : World) (hr0_4 : Kd.C (Kd.slice 5 (Kd.int .u8)) w A0_4 l0_4.length l0_4) (hc0_4 : l0_4.length ≤ c0_4) (h : twoslotlaw09_much.f a0_0 a0_1 a0_2 a0_3 l0_4 = some r) :
  Calls Try.prog 18 #[.agg #[.int .i64 a0_0, .int .i64 a0_1, .int .i64 a0_2, .int .i64 a0_3, .slice A0_4 l0_4.length c0_4]] w fun e w' => e = .returned (.bool r) ∧ Below w.heap.size w w' := by
 have hu27 := Try.underlying27
 have HR0_4 := Aside0.mk hr0_4
 have HC0_4 := Aside0.mk hc0_4
 clear hr0_4 hc0_4
 have HB := Aside0.mk (Below.refl w.heap.size w)
 have H : (some (decide ((l0_4.length : Int) > 2000))) = some r := h
 clear h
 obtain rfl := Option.some.inj H
 go_enter Try.func18, Try.ntmps18
 go_wp2_with (first | ((with_reducible refine gate_dst (N := 1) rfl ?_); refine box_event rfl (N := 1) rfl (cs := #[.int .i64 a0_0, .int .i64 a0_1, .int .i64 a0_2, .int .i64 a0_3, .slice A0_4 l0_4.length c0_4]) (t := 27) (by go_simp; try rfl) ?_; intro gb360 hg w2 hbox hb; have BK360 := Aside0.mk (hbox); have GW360 := Aside0.mk ((by rw [hg]; exact (sZ HB) : w.heap.size ≤ gb360)); have GE360 := Aside0.mk ((by rw [hg]; exact (sZ HB) : w.heap.size ≤ gb360)); replace HB := kH HB hb; clear hb hbox hg; obtain ⟨hcz3_0, hcz3_1, hcz3_2, hcz3_3, hcz3_4, hfz3_0, hfz3_1, hfz3_2, hfz3_3, hfz3_4⟩ := cs5 BK360.out))
 go_ret
 exact ⟨by first | rfl | (simp [errW_none, errW_some] <;> rfl) | (simp [*, errW_none, errW_some] <;> rfl), by repeat (first | exact sH HB.out | refine sN (w := w) ?_ | with_reducible refine sG (w := w) ?_ (by assumption))⟩

def twoslotref09_Twin.l0 : Nat → Int → Int → Int → Int → Int → List (List Int) → Int → Int → Int → Int → List (List Int) → Option (Int × Int × Int × Int × (List (List Int)))
 | 0, _, _, _, _, _, _, _, _, _, _, _ => none
 | k + 1, x4, x363000, x363001, x363002, x363003, x363004, x365000, x365001, x365002, x365003, x365004 => if x4 < (x363004.length : Int) then (if 0 ≤ x4 then (if ([] : List Int).length + (rd_L1 x363004 x4).length < 140737488355328 then (if x365004.length < 5864062014805 then (twoslotref09_Twin.l0 k (wrap64 (x4 + 1)) x363000 x363001 x363002 x363003 x363004 x365000 x365001 x365002 x365003 (x365004 ++ [(([] : List Int) ++ (rd_L1 x363004 x4))])) else (none)) else (none)) else (none)) else (some (x365000, x365001, x365002, x365003, x365004))
def twoslotref09_Twin.f (k : Nat) (a0_0 : Int) (a0_1 : Int) (a0_2 : Int) (a0_3 : Int) (l0_4 : List (List Int)) : Option (Int × Int × Int × Int × (List (List Int))) := twoslotref09_Twin.l0 k 0 a0_0 a0_1 a0_2 a0_3 l0_4 a0_0 a0_1 a0_2 a0_3 ([] : List (List Int))
def twoslotref09_Twin.T6 : Bool × List (List Nat × List Nat) := (true, [([], []), ([0], [0]), ([], []), ([], []), ([3], [3]), ([], []), ([4, 5], [4, 5]), ([6], [6]), ([2, 7], [2, 7]), ([8], [8]), ([1, 9, 8], [1, 9]), ([0, 1, 2, 3, 4, 5, 6, 7, 8, 9, 10], []), ([11, 10, 10, 0, 1, 2, 3, 4, 5, 6, 7, 8, 9, 10], [10, 11])])
def twoslotref09_Twin.B6 : List Nat := [0, 1, 0, 0, 8, 0, 56, 120, 252, 508, 1023, 2047, 4095]
theorem twoslotref09_Twin.tab6 : rtab .any (opsOf Try.f20 6) = twoslotref09_Twin.T6 := by kernel_rfl
theorem twoslotref09_Twin.bits6 : waitsOk twoslotref09_Twin.T6.2 twoslotref09_Twin.B6 = true := by kernel_rfl
set_option maxHeartbeats 8000000 in
set_option maxRecDepth 100000 in
theorem twoslotref09_Twin.calls (k : Nat) (a0_0 : Int) (a0_1 : Int) (a0_2 : Int) (a0_3 : Int) (A0_4 : Option Addr) (c0_4 : Nat) (l0_4 : List (List Int)) (r1 : Int) (r2 : Int) (r3 : Int) (r4 : Int) (r5 : List (List Int)) (w : World) (hr0_4 : Kd.C (Kd.slice 5 (Kd.int .u8)) w A0_4 l0_4.length l0_4) (hc0_4 : l0_4.length ≤ c0_4) (h : twoslotref09_Twin.f k a0_0 a0_1 a0_2 a0_3 l0_4 = some (r1, r2, r3, r4, r5)) :
  Calls Try.prog 20 #[.agg #[.int .i64 a0_0, .int .i64 a0_1, .int .i64 a0_2, .int .i64 a0_3, .slice A0_4 l0_4.length c0_4]] w fun e w' => ∃ v4_ : Value, e = .returned (.agg #[.int .i64 r1, .int .i64 r2, .int .i64 r3, .int .i64 r4, v4_]) ∧ Kd.S (Kd.slice 5 (Kd.int .u8)) 33 w' w.heap.size (fun _ => True) v4_ r5 ∧ Below w.heap.size w w' := by
 have hu27 := Try.underlying27
 have hu24 := Try.underlying24
 have HR0_4 := Aside0.mk hr0_4
 have HC0_4 := Aside0.mk hc0_4
 clear hr0_4 hc0_4
 have HB := Aside0.mk (Below.refl w.heap.size w)
 have H : (twoslotref09_Twin.l0 k 0 a0_0 a0_1 a0_2 a0_3 l0_4 a0_0 a0_1 a0_2 a0_3 ([] : List (List Int))) = some (r1, r2, r3, r4, r5) := h
 clear h
 have H' := Aside0.mk H
 clear H
 go_enter Try.func20, Try.ntmps20
 go_wp2_with (first | ((with_reducible refine gate_dst (N := 1) rfl ?_); refine box_event rfl (N := 1) rfl (cs := #[.int .i64 a0_0, .int .i64 a0_1, .int .i64 a0_2, .int .i64 a0_3, .slice A0_4 l0_4.length c0_4]) (t := 27) (by go_simp; try rfl) ?_; intro gb362 hg w2 hbox hb; have BK362 := Aside0.mk (hbox); have GW362 := Aside0.mk ((by rw [hg]; exact (sZ HB) : w.heap.size ≤ gb362)); have GE362 := Aside0.mk ((by rw [hg]; exact (sZ HB) : w.heap.size ≤ gb362)); replace HB := kH HB hb; clear hb hbox hg) | ((with_reducible refine gate_dst (N := 2) rfl ?_); refine box_event rfl (N := 2) rfl (cs := #[.int .i64 0, .int .i64 0, .int .i64 0, .int .i64 0, .slice none 0 0]) (t := 27) (by go_simp; try rfl) ?_; intro gb363 hg w3 hbox hb; have BK363 := Aside0.mk (hbox); have GW363 := Aside0.mk ((by rw [hg]; exact (below_size (by repeat (first | exact sH HB.out | refine sN (w := w) ?_ | with_reducible refine sG (w := w) ?_ (by assumption)))) : w.heap.size ≤ gb363)); have GE363 := Aside0.mk ((by rw [hg]; exact (below_size (by repeat (first | exact sH HB.out | refine sN (w := w) ?_ | with_reducible refine sG (w := w) ?_ (by assumption)))) : w.heap.size ≤ gb363)); replace HB := Aside0.mk (below_step (by repeat (first | exact sH HB.out | refine sN (w := w) ?_ | with_reducible refine sG (w := w) ?_ (by assumption))) hb); have NB362_363 := Aside0.mk ((by rw [hg]; exact Nat.ne_of_lt (blk_lt (g := gb362) (o := .cells #[.int .i64 a0_0, .int .i64 a0_1, .int .i64 a0_2, .int .i64 a0_3, .slice A0_4 l0_4.length c0_4] 27 (0, 0)) (by first | exact BK362.out | (refine sO ?_; exact BK362.out))) : gb362 ≠ gb363)); have NB363_362 := Aside0.mk ((by rw [hg]; exact Nat.ne_of_gt (blk_lt (g := gb362) (o := .cells #[.int .i64 a0_0, .int .i64 a0_1, .int .i64 a0_2, .int .i64 a0_3, .slice A0_4 l0_4.length c0_4] 27 (0, 0)) (by first | exact BK362.out | (refine sO ?_; exact BK362.out))) : gb363 ≠ gb362)); replace BK362 := kB BK362 hb; clear hb hbox hg; have hnb4 := NB362_363.out; have hnc4 := NB363_362.out; obtain ⟨hcz5_0, hcz5_1, hcz5_2, hcz5_3, hcz5_4, hfz5_0, hfz5_1, hfz5_2, hfz5_3, hfz5_4⟩ := cs5 BK362.out) | ((with_reducible refine gate_dst (N := 3) rfl ?_); refine box_event rfl (N := 3) rfl (cs := #[.int .i64 0, .int .i64 0, .int .i64 0, .int .i64 0, .slice none 0 0]) (t := 27) (by go_simp; try rfl) ?_; intro gb364 hg w6 hbox hb; have BK364 := Aside0.mk (hbox); have GW364 := Aside0.mk ((by rw [hg]; exact (below_size (by repeat (first | exact sH HB.out | refine sN (w := w) ?_ | with_reducible refine sG (w := w) ?_ (by assumption)))) : w.heap.size ≤ gb364)); have GE364 := Aside0.mk ((by rw [hg]; exact (below_size (by repeat (first | exact sH HB.out | refine sN (w := w) ?_ | with_reducible refine sG (w := w) ?_ (by assumption)))) : w.heap.size ≤ gb364)); replace HB := Aside0.mk (below_step (by repeat (first | exact sH HB.out | refine sN (w := w) ?_ | with_reducible refine sG (w := w) ?_ (by assumption))) hb); have NB362_364 := Aside0.mk ((by rw [hg]; exact Nat.ne_of_lt (blk_lt (g := gb362) (o := .cells #[.int .i64 a0_0, .int .i64 a0_1, .int .i64 a0_2, .int .i64 a0_3, .slice A0_4 l0_4.length c0_4] 27 (0, 0)) (by first | exact BK362.out | (refine sO ?_; exact BK362.out))) : gb362 ≠ gb364)); have NB364_362 := Aside0.mk ((by rw [hg]; exact Nat.ne_of_gt (blk_lt (g := gb362) (o := .cells #[.int .i64 a0_0, .int .i64 a0_1, .int .i64 a0_2, .int .i64 a0_3, .slice A0_4 l0_4.length c0_4] 27 (0, 0)) (by first | exact BK362.out | (refine sO ?_; exact BK362.out))) : gb364 ≠ gb362)); replace BK362 := kB BK362 hb; have NB363_364 := Aside0.mk ((by rw [hg]; exact Nat.ne_of_lt (blk_lt (g := gb363) (o := .cells #[.int .i64 0, .int .i64 0, .int .i64 0, .int .i64 0, .slice none 0 0] 27 (0, 0)) (by first | exact BK363.out | (refine sO ?_; exact BK363.out))) : gb363 ≠ gb364)); have NB364_363 := Aside0.mk ((by rw [hg]; exact Nat.ne_of_gt (blk_lt (g := gb363) (o := .cells #[.int .i64 0, .int .i64 0, .int .i64 0, .int .i64 0, .slice none 0 0] 27 (0, 0)) (by first | exact BK363.out | (refine sO ?_; exact BK363.out))) : gb364 ≠ gb363)); replace BK363 := kB BK363 hb; clear hb hbox hg; have hnb7 := NB364_362.out; have hnc7 := NB362_364.out; have hnb8 := NB364_363.out; have hnc8 := NB363_364.out; obtain ⟨hcz9_0, hcz9_1, hcz9_2, hcz9_3, hcz9_4, hfz9_0, hfz9_1, hfz9_2, hfz9_3, hfz9_4⟩ := cs5 BK364.out))
 go_loopg [4] k (fun kq v4 w' => ∃ (x4_1 : Int) (x365004_1 : List (List Int)) (u365004 : Value), v4 = .int .i64 x4_1 ∧ Aside0 (twoslotref09_Twin.l0 kq x4_1 a0_0 a0_1 a0_2 a0_3 l0_4 a0_0 a0_1 a0_2 a0_3 x365004_1 = some (r1, r2, r3, r4, r5)) ∧ Aside0 (kq ≤ k) ∧ Aside0 (Kd.S (Kd.slice 5 (Kd.int .u8)) 33 w' w.heap.size (fun _ => True) u365004 x365004_1) ∧ Aside0 (w'.heap[gb362]? = some (.cells #[.int .i64 a0_0, .int .i64 a0_1, .int .i64 a0_2, .int .i64 a0_3, (.slice A0_4 l0_4.length c0_4)] 27 (0, 0))) ∧ Aside0 (w'.heap[gb363]? = some (.cells #[.int .i64 0, .int .i64 0, .int .i64 0, .int .i64 0, (.slice none 0 0)] 27 (0, 0))) ∧ Aside0 (w'.heap[gb364]? = some (.cells #[.int .i64 a0_0, .int .i64 a0_1, .int .i64 a0_2, .int .i64 a0_3, u365004] 27 (0, 0))) ∧ Aside0 (Below w.heap.size w w'))
 case atStart => exact ⟨(0), (([] : List (List Int))), (.slice none 0 0), (by first | rfl | (simp; done) | (simp [*]; done)), H', ⟨Nat.le_refl _⟩, ⟨by first | exact Kd.S_nil _ _ _ _ _ | exact Kd.N_nil _ _ _ _ _ | exact Kd.V_nil _ _ _ _ _ | exact Kd.Q_nil _ _ _ _ _ | exact Kd.R_nil _ _ _ _ _⟩, ⟨by (try refine sO ?_); refine blk_far ?_ NB362_364.out _; (try refine sO ?_); refine blk_far ?_ NB362_364.out _; (try refine sO ?_); refine blk_far ?_ NB362_364.out _; (try refine sO ?_); refine blk_far ?_ NB362_364.out _; (try refine sO ?_); refine blk_far ?_ NB362_364.out _; (try refine sO ?_); exact BK362.out⟩, ⟨by (try refine sO ?_); refine blk_far ?_ NB363_364.out _; (try refine sO ?_); refine blk_far ?_ NB363_364.out _; (try refine sO ?_); refine blk_far ?_ NB363_364.out _; (try refine sO ?_); refine blk_far ?_ NB363_364.out _; (try refine sO ?_); refine blk_far ?_ NB363_364.out _; (try refine sO ?_); exact BK363.out⟩, ⟨by (try refine sO ?_); refine blk_put (cs := #[.int .i64 a0_0, .int .i64 a0_1, .int .i64 a0_2, .int .i64 a0_3, .slice none 0 0]) ?_ 4 _ rfl; (try refine sO ?_); refine blk_put (cs := #[.int .i64 a0_0, .int .i64 a0_1, .int .i64 a0_2, .int .i64 0, .slice none 0 0]) ?_ 3 _ rfl; (try refine sO ?_); refine blk_put (cs := #[.int .i64 a0_0, .int .i64 a0_1, .int .i64 0, .int .i64 0, .slice none 0 0]) ?_ 2 _ rfl; (try refine sO ?_); refine blk_put (cs := #[.int .i64 a0_0, .int .i64 0, .int .i64 0, .int .i64 0, .slice none 0 0]) ?_ 1 _ rfl; (try refine sO ?_); refine blk_put (cs := #[.int .i64 0, .int .i64 0, .int .i64 0, .int .i64 0, .slice none 0 0]) ?_ 0 _ rfl; (try refine sO ?_); exact BK364.out⟩, ⟨by repeat (first | exact sH HB.out | refine sN (w := w) ?_ | with_reducible refine sG (w := w) ?_ (by assumption))⟩⟩
 case round =>
  clear H'
  try clear c2
  try clear p2
  try clear c4
  try clear c7
  try clear c8
  try clear hcz5_0
  try clear hcz5_1
  try clear hcz5_2
  try clear hcz5_3
  try clear hcz5_4
  try clear hcz9_0
  try clear hcz9_1
  try clear hcz9_2
  try clear hcz9_3
  try clear hcz9_4
  try clear hfz5_0
  try clear hfz5_1
  try clear hfz5_2
  try clear hfz5_3
  try clear hfz5_4
  try clear hfz9_0
  try clear hfz9_1
  try clear hfz9_2
  try clear hfz9_3
  try clear hfz9_4
  obtain ⟨x4_1, x365004_1, u365004, rfl, HA, HK1, HO_365004, BK362, BK363, BK364, HB⟩ := hrel
  cases gk with
  | zero => exact absurd HA.out (by simp [twoslotref09_Twin.l0])
  | succ k1 =>
   have H := HA.out
   clear HA
   simp only [twoslotref09_Twin.l0] at H
   by_cases c10 : x4_1 < (l0_4.length : Int)
   ·
    rw [if_pos c10] at H
    have c10b0 : decide (x4_1 < (l0_4.length : Int)) = true := decide_eq_true c10
    clear c10
    by_cases c11 : 0 ≤ x4_1
    ·
     rw [if_pos c11] at H
     have c11b0 : decide (0 ≤ x4_1) = true := decide_eq_true c11
     clear c11
     by_cases c12 : ([] : List Int).length + (rd_L1 l0_4 x4_1).length < 140737488355328
     ·
      rw [if_pos c12] at H
      have LMc12 := Aside0.mk c12
      clear c12
      obtain ⟨y366, hy366⟩ : ∃ y_ : List Int, y_ = (([] : List Int) ++ (rd_L1 l0_4 x4_1)) := ⟨_, rfl⟩
      replace H : (if x365004_1.length < 5864062014805 then (twoslotref09_Twin.l0 k1 (wrap64 (x4_1 + 1)) a0_0 a0_1 a0_2 a0_3 l0_4 a0_0 a0_1 a0_2 a0_3 (x365004_1 ++ [y366])) else (none)) = some (r1, r2, r3, r4, r5) := by first | (rw [hy366]; with_reducible exact H) | (have H2_ := (Option.bind_some _ _).symm.trans H; rw [hy366]; with_reducible exact H2_) | (have H2_ := (Option.bind_some _ _).symm.trans H; with_reducible exact H2_) | with_reducible exact H | (rw [hy366]; exact H) | exact H
      have Ny366 := Aside0.mk hy366
      clear hy366
      by_cases c13 : x365004_1.length < 5864062014805
      ·
       rw [if_pos c13] at H
       have LMc13 := Aside0.mk c13
       clear c13
       obtain ⟨y369, hy369⟩ : ∃ y_ : List (List Int), y_ = (x365004_1 ++ [y366]) := ⟨_, rfl⟩
       replace H : (twoslotref09_Twin.l0 k1 (wrap64 (x4_1 + 1)) a0_0 a0_1 a0_2 a0_3 l0_4 a0_0 a0_1 a0_2 a0_3 y369) = some (r1, r2, r3, r4, r5) := by first | (rw [hy369]; with_reducible exact H) | (have H2_ := (Option.bind_some _ _).symm.trans H; rw [hy369]; with_reducible exact H2_) | (have H2_ := (Option.bind_some _ _).symm.trans H; with_reducible exact H2_) | with_reducible exact H | (rw [hy369]; exact H) | exact H
       have Ny369 := Aside0.mk hy369
       clear hy369
       have H' := Aside0.mk H
       clear H
       have hnb14 := NB362_363.out
       have hnc14 := NB363_362.out
       have hnb15 := NB362_364.out
       have hnc15 := NB364_362.out
       obtain ⟨hcz16_0, hcz16_1, hcz16_2, hcz16_3, hcz16_4, hfz16_0, hfz16_1, hfz16_2, hfz16_3, hfz16_4⟩ := cs5 BK362.out
       try go_wp2
       replace HO_365004 := Aside0.mk (Kd.S_drew HO_365004.out); replace BK362 := Aside0.mk (blk_drew BK362.out); replace BK363 := Aside0.mk (blk_drew BK363.out); replace BK364 := Aside0.mk (blk_drew BK364.out); replace HB := Aside0.mk (below_drew1 HB.out)
       have p365 : 0 ≤ (x4_1 : Int) := of_decide_eq_true (by first | (with_reducible assumption) | assumption)
       have q365 : x4_1 < (l0_4.length : Int) := of_decide_eq_true (by first | (with_reducible assumption) | assumption)
       obtain ⟨ad365, A365_0, c365_0, e365, hx365_0, hl365_0, hi365_0⟩ := at_L1 HR0_4.out x4_1 p365 q365
       have hw365_0 := hx365_0
       cases e365
       replace hx365_0 := (HB.out.cell (World.block_lt_of_cell? w _ hx365_0)).trans hx365_0
       have HR365_0 := Aside0.mk hi365_0
       have HC365_0 := Aside0.mk hl365_0
       clear hi365_0 hl365_0
       replace p365 := eq_true p365
       replace q365 := eq_true q365
       refine start_ (n := 13) (S := fun w' => w'.cell? ⟨gb364, 0, none⟩ = some (.int .i64 a0_0) ∧ w'.cell? ⟨gb364, 1, none⟩ = some (.int .i64 a0_1) ∧ w'.cell? ⟨gb364, 2, none⟩ = some (.int .i64 a0_2) ∧ w'.cell? ⟨gb364, 3, none⟩ = some (.int .i64 a0_3) ∧ w'.cell? ⟨gb364, 4, none⟩ = some (u365004) ∧ w'.cell? ⟨gb362, 0, none⟩ = some (.int .i64 a0_0) ∧ w'.cell? ⟨gb362, 1, none⟩ = some (.int .i64 a0_1) ∧ w'.cell? ⟨gb362, 2, none⟩ = some (.int .i64 a0_2) ∧ w'.cell? ⟨gb362, 3, none⟩ = some (.int .i64 a0_3) ∧ w'.cell? ⟨gb362, 4, none⟩ = some (.slice (some ad365) l0_4.length c0_4) ∧ w'.cell? (ad365.add (x4_1).toNat) = some (.slice A365_0 (rd_L1 l0_4 x4_1).length c365_0)) (ds := [12]) #[O,O,O,O,O,O,O,O,O,O,O,O,O] (by kernel_rfl) rfl rfl ⟨(blk_cell BK364.out 0).trans rfl, (blk_cell BK364.out 1).trans rfl, (blk_cell BK364.out 2).trans rfl, (blk_cell BK364.out 3).trans rfl, (blk_cell BK364.out 4).trans rfl, (blk_cell BK362.out 0).trans rfl, (blk_cell BK362.out 1).trans rfl, (blk_cell BK362.out 2).trans rfl, (blk_cell BK362.out 3).trans rfl, (blk_cell BK362.out 4).trans rfl, ((HB.out.cell (World.block_lt_of_cell? w _ hw365_0)).trans hw365_0)⟩ (fun hHeld => ?_); refine with_tabW twoslotref09_Twin.tab6 twoslotref09_Twin.bits6 (fun HT_ HW_ => ?_)
       generalize wr.drew = w17 at HO_365004 BK362 BK363 BK364 HB HR365_0 hx365_0 hHeld ⊢
       refine pu (i := 0) (N := some 16) (v := ?_) (a' := ?_) #[X,O,O,O,O,O,O,O,O,O,O,O,O] rfl rfl HT_ (by kernel_rfl) (fun _ _ _ h => h) ⟨by rfl, ?_⟩ ?_ ?_
       rotate_left; (intro w'; go_simp; with_reducible rfl); rotate_left; (simp only [sP]; rfl)
       refine pu (i := 2) (N := some 18) (v := ?_) (a' := ?_) #[X,O,X,O,O,O,O,O,O,O,O,O,O] rfl rfl HT_ (by kernel_rfl) (fun _ _ _ h => h) ⟨by rfl, ?_⟩ ?_ ?_
       rotate_left; (intro w'; go_simp; with_reducible rfl); rotate_left; (simp only [sP]; rfl)
       refine pu (i := 3) (N := some 19) (v := ?_) (a' := ?_) #[X,O,X,X,O,O,O,O,O,O,O,O,O] rfl rfl HT_ (by kernel_rfl) (fun _ _ _ h => h) ⟨by rfl, ?_⟩ ?_ ?_
       rotate_left; (intro w'; go_simp; with_reducible rfl); rotate_left; (simp only [sP]; rfl)
       refine pu (i := 5) (N := some 21) (v := ?_) (a' := ?_) #[X,O,X,X,O,X,O,O,O,O,O,O,O] rfl rfl HT_ (by kernel_rfl) (fun _ _ _ h => h) ⟨by rfl, ?_⟩ ?_ ?_
       rotate_left; (intro w'; go_simp; with_reducible rfl); rotate_left; (simp only [sP]; rfl)
       refine tu (i := 1) (N := some 17) (v := ?_) (a' := ?_) #[X,X,X,X,O,X,O,O,O,O,O,O,O] rfl rfl HT_ HW_ (by kernel_rfl) (fun _ _ _ h => h) ⟨by rfl, ?_⟩ hHeld ?_ ?_
       rotate_left; (rintro w' ⟨s0, s1, s2, s3, s4, s5, s6, s7, s8, s9, s10⟩; go_simp; with_reducible rfl); rotate_left; (simp only [sP]; rfl)
       refine tu (i := 4) (N := some 20) (v := ?_) (a' := ?_) #[X,X,X,X,X,X,O,O,O,O,O,O,O] rfl rfl HT_ HW_ (by kernel_rfl) (fun _ _ _ h => h) ⟨by rfl, ?_⟩ hHeld ?_ ?_
       rotate_left; (rintro w' ⟨s0, s1, s2, s3, s4, s5, s6, s7, s8, s9, s10⟩; go_simp; with_reducible rfl); rotate_left; (simp only [sP]; rfl)
       refine pu (i := 6) (N := some 22) (v := ?_) (a' := ?_) #[X,X,X,X,X,X,X,O,O,O,O,O,O] rfl rfl HT_ (by kernel_rfl) (fun _ _ _ h => h) ⟨by rfl, ?_⟩ ?_ ?_
       rotate_left; (intro w'; go_simp; with_reducible rfl); rotate_left; (simp only [sP]; rfl)
       refine tu (i := 7) (N := some 23) (v := ?_) (a' := ?_) #[X,X,X,X,X,X,X,X,O,O,O,O,O] rfl rfl HT_ HW_ (by kernel_rfl) (fun _ _ _ h => h) ⟨by rfl, ?_⟩ hHeld ?_ ?_
       rotate_left; (rintro w' ⟨s0, s1, s2, s3, s4, s5, s6, s7, s8, s9, s10⟩; go_simp; with_reducible rfl); rotate_left; (simp only [sP]; rfl)
       refine one_ (i := 8) (N := some 24) #[X,X,X,X,X,X,X,X,X,O,O,O,O] rfl rfl (one_of HT_.out (by kernel_rfl)) (by decide) (fun K hK => ?_)
       refine Kd.R_append_rows_step (Kd.int .u8) (w0 := w) w.heap.size (by rfl) (.tmp 18) (.tmp 23) 33 5 (.int .u8 0) 1 rfl Try.underlying33 info5 rfl (by decide) (by omega) (.slice none 0 0) ([] : List Int) (rd_L1 l0_4 x4_1) _ _ _ (fun _ => True) (fun _ => False) rfl rfl ?aO ?aR (fun _ _ h => h) (fun _ h => h.elim) ?aF ?aB ?aS ?aL ?_
       (case aR => exact sC (Kd.C_below HR365_0.out HB.out))
       (case aB => exact (by repeat (first | exact sH HB.out | refine sN (w := w) ?_ | with_reducible refine sG (w := w) ?_ (by assumption))))
       (case aF => exact (fun _ _ => trivial))
       (case aO => exact ((Kd.R_nil _ _ _ _ (fun _ => True))))
       (case aS => exact (below_size (by repeat (first | exact sH HB.out | refine sN (w := w) ?_ | with_reducible refine sG (w := w) ?_ (by assumption)))))
       (case aL => have := LMc12.out; omega)
       intro v367 w18 ho hb hg hat
       rw [← Ny366.out] at ho
       replace HO_365004 := Aside0.mk (Kd.S_after (Kd.S_apart_nil (sS HO_365004.out)) hg hat); replace BK362 := Aside0.mk (blk_grown (g := gb362) (o := .cells #[.int .i64 a0_0, .int .i64 a0_1, .int .i64 a0_2, .int .i64 a0_3, .slice (some ad365) l0_4.length c0_4] 27 (0, 0)) (by first | exact BK362.out | (refine sO ?_; exact BK362.out)) hg (by simp [Value.ownBlock])); replace BK363 := Aside0.mk (blk_grown (g := gb363) (o := .cells #[.int .i64 0, .int .i64 0, .int .i64 0, .int .i64 0, .slice none 0 0] 27 (0, 0)) (by first | exact BK363.out | (refine sO ?_; exact BK363.out)) hg (by simp [Value.ownBlock])); replace BK364 := Aside0.mk (blk_grown (g := gb364) (o := .cells #[.int .i64 a0_0, .int .i64 a0_1, .int .i64 a0_2, .int .i64 a0_3, u365004] 27 (0, 0)) (by first | exact BK364.out | (refine sO ?_; exact BK364.out)) hg (by simp [Value.ownBlock])); replace HB := Aside0.mk (hb); have HO368 := Aside0.mk (ho)
       clear ho hb hg hat
       obtain ⟨Ao20, co20, eo20⟩ := Kd.R_slice HO368.out
       (first | subst eo20 | (injection eo20 with f1_ f2_ f3_; have f4_ := f1_.symm; have f5_ := f3_.symm; clear f1_ f2_ f3_; subst f4_; subst f5_))
       refine hK.out _ _ ⟨(blk_cell BK364.out 0).trans rfl, (blk_cell BK364.out 1).trans rfl, (blk_cell BK364.out 2).trans rfl, (blk_cell BK364.out 3).trans rfl, (blk_cell BK364.out 4).trans rfl, (blk_cell BK362.out 0).trans rfl, (blk_cell BK362.out 1).trans rfl, (blk_cell BK362.out 2).trans rfl, (blk_cell BK362.out 3).trans rfl, (blk_cell BK362.out 4).trans rfl, ((HB.out.cell (World.block_lt_of_cell? w _ hw365_0)).trans hw365_0)⟩ (fun hHeld => ?_)
       clear hK K
       refine norm_ (a' := ?_) ?_ ?_
       rotate_left
       ·
        show Act.put _ (some 24) _ = _
        simp only [sP]
        rfl
       refine one_ (i := 9) (N := some 25) #[X,X,X,X,X,X,X,X,X,X,O,O,O] rfl rfl (one_of HT_.out (by kernel_rfl)) (by decide) (fun K hK => ?_)
       refine value_ (w1 := ?_) (v := ?_) (by rfl) rfl ?_ ?_
       rotate_left 2
       ·
        go_simp
        constructor
        ·
         rfl
        ·
         rfl
       refine hK.out _ _ ⟨(blk_cell (blk_alloc BK364.out _) 0).trans rfl, (blk_cell (blk_alloc BK364.out _) 1).trans rfl, (blk_cell (blk_alloc BK364.out _) 2).trans rfl, (blk_cell (blk_alloc BK364.out _) 3).trans rfl, (blk_cell (blk_alloc BK364.out _) 4).trans rfl, (blk_cell (blk_alloc BK362.out _) 0).trans rfl, (blk_cell (blk_alloc BK362.out _) 1).trans rfl, (blk_cell (blk_alloc BK362.out _) 2).trans rfl, (blk_cell (blk_alloc BK362.out _) 3).trans rfl, (blk_cell (blk_alloc BK362.out _) 4).trans rfl, (World.cell?_alloc_lt _ _ _ (World.block_lt_of_cell? _ _ (((HB.out.cell (World.block_lt_of_cell? w _ hw365_0)).trans hw365_0)))).trans (((HB.out.cell (World.block_lt_of_cell? w _ hw365_0)).trans hw365_0))⟩ (fun hHeld => ?_)
       clear hK K
       refine norm_ (a' := ?_) ?_ ?_
       rotate_left
       ·
        show Act.put _ (some 25) _ = _
        simp only [sP]
        rfl
       refine one_ (i := 10) (N := some 26) #[X,X,X,X,X,X,X,X,X,X,X,O,O] rfl rfl (one_of HT_.out (by kernel_rfl)) (by decide) (fun K hK => ?_)
       refine Kd.S_append_step (Kd.slice 5 (Kd.int .u8)) (w0 := w) w.heap.size (by rfl) (.tmp 17) (.tmp 25) 25 33 (.slice none 0 0) 24 rfl Try.underlying25 info33 rfl (by decide) (by omega) u365004 x365004_1 y366 [.slice Ao20 y366.length co20] (fun _ => True) (fun k_ => some k_ = (.slice Ao20 y366.length co20 : Value).ownBlock) rfl rfl ?aP (fun k_ hk_ => ((Kd.R_mono (ok' := fun k_ => ((fun _ => True)) k_ ∧ some k_ ≠ (u365004 : Value).ownBlock) (Kd.R_apart' (HO368.out) (Kd.S_typed HO_365004.out) (by decide)) (fun k_ hk => ⟨trivial, hk.2⟩))).1 k_ hk_.symm) ?aF ?aO ?aB ?aS ?aL ?_
       (case aP => exact Kd.M_row (Kd.R_mono (Kd.R_tight rfl (Kd.R_mono (ok' := fun k_ => ((fun _ => True)) k_ ∧ some k_ ≠ (u365004 : Value).ownBlock) (Kd.R_apart' (HO368.out) (Kd.S_typed HO_365004.out) (by decide)) (fun k_ hk => ⟨trivial, hk.2⟩))) (fun _ h_ => h_)))
       (case aB => exact (by repeat (first | exact sH HB.out | refine sN (w := w) ?_ | with_reducible refine sG (w := w) ?_ (by assumption))))
       (case aF => exact (fun _ _ => trivial))
       (case aO => exact (by (with_reducible repeat (first | apply Kd.S_alloc | apply Kd.S_drewN | apply Kd.S_drew)); exact Kd.S_mono HO_365004.out (fun k_ hk => ⟨trivial, fun e_ => hk.2 e_⟩)))
       (case aS => exact (below_size (by repeat (first | exact sH HB.out | refine sN (w := w) ?_ | with_reducible refine sG (w := w) ?_ (by assumption)))))
       (case aL => have := LMc13.out; omega)
       intro v370 w19 ho hb hg hat
       rw [← Ny369.out] at ho
       have n0_ := Aside0.mk (blk_grown (g := gb362) (o := .cells #[.int .i64 a0_0, .int .i64 a0_1, .int .i64 a0_2, .int .i64 a0_3, .slice (some ad365) l0_4.length c0_4] 27 (0, 0)) (by first | exact BK362.out | (refine sO ?_; exact BK362.out)) hg (Kd.S_ne HO_365004.out BK362.out (by decide))); have n1_ := Aside0.mk (blk_grown (g := gb363) (o := .cells #[.int .i64 0, .int .i64 0, .int .i64 0, .int .i64 0, .slice none 0 0] 27 (0, 0)) (by first | exact BK363.out | (refine sO ?_; exact BK363.out)) hg (Kd.S_ne HO_365004.out BK363.out (by decide))); have n2_ := Aside0.mk (blk_grown (g := gb364) (o := .cells #[.int .i64 a0_0, .int .i64 a0_1, .int .i64 a0_2, .int .i64 a0_3, u365004] 27 (0, 0)) (by first | exact BK364.out | (refine sO ?_; exact BK364.out)) hg (Kd.S_ne HO_365004.out BK364.out (by decide))); have n3_ := Aside0.mk (hb); have n4_ := Aside0.mk (ho); clear BK362; clear BK363; clear BK364; clear HB; clear HO_365004; clear HO368; have BK362 := n0_; have BK363 := n1_; have BK364 := n2_; have HB := n3_; have HO371 := n4_; clear n0_ n1_ n2_ n3_ n4_
       clear ho hb hg hat
       obtain ⟨Ao21, co21, eo21⟩ := Kd.S_slice HO371.out
       (first | subst eo21 | (injection eo21 with f1_ f2_ f3_; have f4_ := f1_.symm; have f5_ := f3_.symm; clear f1_ f2_ f3_; subst f4_; subst f5_))
       refine hK.out _ _ ⟨(blk_cell BK364.out 0).trans rfl, (blk_cell BK364.out 1).trans rfl, (blk_cell BK364.out 2).trans rfl, (blk_cell BK364.out 3).trans rfl, (blk_cell BK364.out 4).trans rfl, (blk_cell BK362.out 0).trans rfl, (blk_cell BK362.out 1).trans rfl, (blk_cell BK362.out 2).trans rfl, (blk_cell BK362.out 3).trans rfl, (blk_cell BK362.out 4).trans rfl, ((HB.out.cell (World.block_lt_of_cell? w _ hw365_0)).trans hw365_0)⟩ (fun hHeld => ?_)
       clear hK K
       refine norm_ (a' := ?_) ?_ ?_
       rotate_left
       ·
        show Act.put _ (some 26) _ = _
        simp only [sP]
        rfl
       refine pu (i := 11) (N := some 27) (v := ?_) (a' := ?_) #[X,X,X,X,X,X,X,X,X,X,X,X,O] rfl rfl HT_ (by kernel_rfl) (fun _ _ _ h => h) ⟨by rfl, ?_⟩ ?_ ?_
       rotate_left; (intro w'; go_simp; with_reducible rfl); rotate_left; (simp only [sP]; rfl)
       refine last_ (i := 12) (N := none) #[X,X,X,X,X,X,X,X,X,X,X,X,X] rfl rfl (one_of HT_.out (by kernel_rfl)) (by decide) (fun K hK => ?_)
       have hs22 : w19.cell? ⟨gb364, 4, none⟩ = some (u365004) := (blk_cell BK364.out 4).trans rfl
       have hfs22 := blk_frozen BK364.out 4
       have hns22_0 := NB362_364.out
       have hns22_1 := NB363_364.out
       have hms22_0 := NB364_362.out
       have hms22_1 := NB364_363.out
       refine skip_ (w1 := ?_) (by rfl) rfl ?_ ?_
       rotate_left
       ·
        go_simp
        rfl
       refine hK.out _ _ ?_
       clear hK K
       refine done_ (done_of HT_.out (by kernel_rfl)) ?_
       try go_wp2
       go_roundg k1
       case measure => have := HK1.out; omega
       case rel => exact ⟨(wrap64 (x4_1 + 1)), (y369), (.slice Ao21 y369.length co21), (by first | rfl | (simp; done) | (simp [*]; done)), H', ⟨by have := HK1.out; omega⟩, ⟨by (with_reducible repeat (first | apply Kd.S_alloc | apply Kd.S_drewN | apply Kd.S_drew)); exact Kd.S_mono (Kd.S_far (p := ⟨gb364, 4, none⟩) (Kd.S_types HO371.out BK364.out (by decide)) (fun _ hk => hk.2) (.slice Ao21 y369.length co21)) (fun _ hk => trivial)⟩, ⟨by (try refine sO ?_); refine blk_far ?_ NB362_364.out _; (try refine sO ?_); exact BK362.out⟩, ⟨by (try refine sO ?_); refine blk_far ?_ NB363_364.out _; (try refine sO ?_); exact BK363.out⟩, ⟨by (try refine sO ?_); refine blk_put (cs := #[.int .i64 a0_0, .int .i64 a0_1, .int .i64 a0_2, .int .i64 a0_3, u365004]) ?_ 4 _ rfl; (try refine sO ?_); exact BK364.out⟩, ⟨by repeat (first | exact sH HB.out | refine sN (w := w) ?_ | with_reducible refine sG (w := w) ?_ (by assumption))⟩⟩
      ·
       rw [if_neg c13] at H
       exact absurd H (by simp)
     ·
      rw [if_neg c12] at H
      exact absurd H (by simp)
    ·
     rw [if_neg c11] at H
     exact absurd H (by simp)
   ·
    rw [if_neg c10] at H
    have c10b0 : decide (x4_1 < (l0_4.length : Int)) = false := decide_eq_false c10
    clear c10
    simp only [Option.some.injEq, Prod.mk.injEq] at H
    obtain ⟨rfl, rfl, rfl, rfl, rfl⟩ := H
    have hnb23 := NB362_363.out
    have hnc23 := NB363_362.out
    have hnb24 := NB362_364.out
    have hnc24 := NB364_362.out
    obtain ⟨hcz25_0, hcz25_1, hcz25_2, hcz25_3, hcz25_4, hfz25_0, hfz25_1, hfz25_2, hfz25_3, hfz25_4⟩ := cs5 BK362.out
    have hnb26 := NB364_363.out
    have hnc26 := NB363_364.out
    obtain ⟨hcz27_0, hcz27_1, hcz27_2, hcz27_3, hcz27_4, hfz27_0, hfz27_1, hfz27_2, hfz27_3, hfz27_4⟩ := cs5 BK364.out; obtain ⟨hcz28_0, hcz28_1, hcz28_2, hcz28_3, hcz28_4, hfz28_0, hfz28_1, hfz28_2, hfz28_3, hfz28_4⟩ := cs5 BK363.out
    obtain ⟨Ao29, co29, eo29⟩ := Kd.S_slice HO_365004.out
    subst eo29
    go_wp2
    refine bodyPost_ret (results_cell_row rfl _ _ gb363 27 #[.int .i64 a0_0, .int .i64 a0_1, .int .i64 a0_2, .int .i64 a0_3, .slice Ao29 x365004_1.length co29] (0, 0) _ rfl (by (try refine sO ?_); refine blk_put (cs := #[.int .i64 a0_0, .int .i64 a0_1, .int .i64 a0_2, .int .i64 a0_3, .slice none 0 0]) ?_ 4 _ rfl; (try refine sO ?_); refine blk_put (cs := #[.int .i64 a0_0, .int .i64 a0_1, .int .i64 a0_2, .int .i64 0, .slice none 0 0]) ?_ 3 _ rfl; (try refine sO ?_); refine blk_put (cs := #[.int .i64 a0_0, .int .i64 a0_1, .int .i64 0, .int .i64 0, .slice none 0 0]) ?_ 2 _ rfl; (try refine sO ?_); refine blk_put (cs := #[.int .i64 a0_0, .int .i64 0, .int .i64 0, .int .i64 0, .slice none 0 0]) ?_ 1 _ rfl; (try refine sO ?_); refine blk_put (cs := #[.int .i64 0, .int .i64 0, .int .i64 0, .int .i64 0, .slice none 0 0]) ?_ 0 _ rfl; first | exact BK363.out | (refine sO ?_; exact BK363.out)) Try.underlying27 rfl (by kernel_rfl)) rfl ?_
    exact ⟨_, by first | rfl | (simp [errW_none, errW_some] <;> rfl) | (simp [*, errW_none, errW_some] <;> rfl), by (with_reducible repeat (first | apply Kd.S_alloc | apply Kd.S_drewN | apply Kd.S_drew)); exact Kd.S_mono (Kd.S_far (p := ⟨gb363, 4, none⟩) (Kd.S_far (p := ⟨gb363, 3, none⟩) (Kd.S_far (p := ⟨gb363, 2, none⟩) (Kd.S_far (p := ⟨gb363, 1, none⟩) (Kd.S_far (p := ⟨gb363, 0, none⟩) (Kd.S_types HO_365004.out BK363.out (by decide)) (fun _ hk => hk.2) (.int .i64 a0_0)) (fun _ hk => hk.2) (.int .i64 a0_1)) (fun _ hk => hk.2) (.int .i64 a0_2)) (fun _ hk => hk.2) (.int .i64 a0_3)) (fun _ hk => hk.2) (.slice Ao29 x365004_1.length co29)) (fun _ hk => trivial), by repeat (first | exact sH HB.out | refine sN (w := w) ?_ | with_reducible refine sG (w := w) ?_ (by assumption))⟩

def twoslotref09_TwinPuts.l0 : Nat → List (S35) → List (S35) → Int → Option ((List (S35)))
 | 0, _, _, _ => none
 | k + 1, x0, x3, x4 => if x4 < (x0.length : Int) then (if 0 ≤ x4 then (if ([] : List Int).length + ((rd_T35 x0 x4).f3).length < 140737488355328 then (if x3.length < 2932031007402 then (twoslotref09_TwinPuts.l0 k x0 (x3 ++ [(⟨(rd_T35 x0 x4).f0, (rd_T35 x0 x4).f1, (rd_T35 x0 x4).f2, (([] : List Int) ++ ((rd_T35 x0 x4).f3))⟩ : S35)]) (wrap64 (x4 + 1))) else (none)) else (none)) else (none)) else (some x3)
def twoslotref09_TwinPuts.f (k : Nat) (l0 : List (S35)) : Option ((List (S35))) := twoslotref09_TwinPuts.l0 k l0 ([] : List (S35)) 0
def twoslotref06_N.f (a0_0 : Int) (a0_1 : Int) (a0_2 : Int) (a0_3 : Int) : Option (Int) := some (wrap64 (a0_0 + a0_1))
set_option maxHeartbeats 8000000 in
set_option maxRecDepth 100000 in
theorem twoslotref06_N.calls (a0_0 : Int) (a0_1 : Int) (a0_2 : Int) (a0_3 : Int) (r : Int) (w : World) (h : twoslotref06_N.f a0_0 a0_1 a0_2 a0_3 = some r) :
  Calls Try.prog 51 #[.agg #[.int .i64 a0_0, .int .i64 a0_1, .int .i64 a0_2, .int .i64 a0_3]] w fun e w' => e = .returned (.int .i64 r) ∧ Below w.heap.size w w' := by
 have hu24 := Try.underlying24
 have HB := Aside0.mk (Below.refl w.heap.size w)
 have H : (some (wrap64 (a0_0 + a0_1))) = some r := h
 clear h
 obtain rfl := Option.some.inj H
 go_enter Try.func51, Try.ntmps51
 go_wp2_with (first | ((with_reducible refine gate_dst (N := 1) rfl ?_); refine box_event rfl (N := 1) rfl (cs := #[.int .i64 a0_0, .int .i64 a0_1, .int .i64 a0_2, .int .i64 a0_3]) (t := 24) (by go_simp; try rfl) ?_; intro gb381 hg w2 hbox hb; have BK381 := Aside0.mk (hbox); have GW381 := Aside0.mk ((by rw [hg]; exact (sZ HB) : w.heap.size ≤ gb381)); have GE381 := Aside0.mk ((by rw [hg]; exact (sZ HB) : w.heap.size ≤ gb381)); replace HB := kH HB hb; clear hb hbox hg; obtain ⟨hcz3_0, hcz3_1, hcz3_2, hcz3_3, hfz3_0, hfz3_1, hfz3_2, hfz3_3⟩ := cs4 BK381.out))
 go_ret
 exact ⟨by first | rfl | (simp [errW_none, errW_some] <;> rfl) | (simp [*, errW_none, errW_some] <;> rfl), by repeat (first | exact sH HB.out | refine sN (w := w) ?_ | with_reducible refine sG (w := w) ?_ (by assumption))⟩

def twoslotref06_May.f (a0_0 : Int) (a0_1 : Int) (a0_2 : Int) (a0_3 : Int) : Option (Bool) := if a0_0 ≥ 1 then (if a0_0 ≤ 12 then (if a0_1 ≥ 0 then (if a0_1 ≤ 4 then (if a0_2 ≥ 8 then (if a0_2 ≤ 64 then (if (wrap64 (a0_0 * a0_2)) ≥ 32 then (if a0_3 ≥ 8 then (some (decide (a0_3 ≤ 256))) else (some false)) else (some false)) else (some false)) else (some false)) else (some false)) else (some false)) else (some false)) else (some false)
set_option maxHeartbeats 8000000 in
set_option maxRecDepth 100000 in
theorem twoslotref06_May.calls (a0_0 : Int) (a0_1 : Int) (a0_2 : Int) (a0_3 : Int) (r : Bool) (w : World) (h : twoslotref06_May.f a0_0 a0_1 a0_2 a0_3 = some r) :
  Calls Try.prog 52 #[.agg #[.int .i64 a0_0, .int .i64 a0_1, .int .i64 a0_2, .int .i64 a0_3]] w fun e w' => e = .returned (.bool r) ∧ Below w.heap.size w w' := by
 have hu24 := Try.underlying24
 have HB := Aside0.mk (Below.refl w.heap.size w)
 have H : (if a0_0 ≥ 1 then (if a0_0 ≤ 12 then (if a0_1 ≥ 0 then (if a0_1 ≤ 4 then (if a0_2 ≥ 8 then (if a0_2 ≤ 64 then (if (wrap64 (a0_0 * a0_2)) ≥ 32 then (if a0_3 ≥ 8 then (some (decide (a0_3 ≤ 256))) else (some false)) else (some false)) else (some false)) else (some false)) else (some false)) else (some false)) else (some false)) else (some false)) = some r := h
 clear h
 by_cases c2 : a0_0 ≥ 1
 ·
  rw [if_pos c2] at H
  have c2b0 : decide (1 ≤ a0_0) = true := decide_eq_true c2
  clear c2
  by_cases c3 : a0_0 ≤ 12
  ·
   rw [if_pos c3] at H
   have c3b0 : decide (a0_0 ≤ 12) = true := decide_eq_true c3
   clear c3
   by_cases c4 : a0_1 ≥ 0
   ·
    rw [if_pos c4] at H
    have c4b0 : decide (0 ≤ a0_1) = true := decide_eq_true c4
    clear c4
    by_cases c5 : a0_1 ≤ 4
    ·
     rw [if_pos c5] at H
     have c5b0 : decide (a0_1 ≤ 4) = true := decide_eq_true c5
     clear c5
     by_cases c6 : a0_2 ≥ 8
     ·
      rw [if_pos c6] at H
      have c6b0 : decide (8 ≤ a0_2) = true := decide_eq_true c6
      clear c6
      by_cases c7 : a0_2 ≤ 64
      ·
       rw [if_pos c7] at H
       have c7b0 : decide (a0_2 ≤ 64) = true := decide_eq_true c7
       clear c7
       by_cases c8 : (wrap64 (a0_0 * a0_2)) ≥ 32
       ·
        rw [if_pos c8] at H
        have c8b0 : decide (32 ≤ (wrap64 (a0_0 * a0_2))) = true := decide_eq_true c8
        clear c8
        by_cases c9 : a0_3 ≥ 8
        ·
         rw [if_pos c9] at H
         have c9b0 : decide (8 ≤ a0_3) = true := decide_eq_true c9
         clear c9
         obtain rfl := Option.some.inj H
         go_enter Try.func52, Try.ntmps52
         go_wp2_with (first | ((with_reducible refine gate_dst (N := 1) rfl ?_); refine box_event rfl (N := 1) rfl (cs := #[.int .i64 a0_0, .int .i64 a0_1, .int .i64 a0_2, .int .i64 a0_3]) (t := 24) (by go_simp; try rfl) ?_; intro gb382 hg w10 hbox hb; have BK382 := Aside0.mk (hbox); have GW382 := Aside0.mk ((by rw [hg]; exact (sZ HB) : w.heap.size ≤ gb382)); have GE382 := Aside0.mk ((by rw [hg]; exact (sZ HB) : w.heap.size ≤ gb382)); replace HB := kH HB hb; clear hb hbox hg; obtain ⟨hcz11_0, hcz11_1, hcz11_2, hcz11_3, hfz11_0, hfz11_1, hfz11_2, hfz11_3⟩ := cs4 BK382.out))
         go_ret
         exact ⟨by first | rfl | (simp [errW_none, errW_some] <;> rfl) | (simp [*, errW_none, errW_some] <;> rfl), by repeat (first | exact sH HB.out | refine sN (w := w) ?_ | with_reducible refine sG (w := w) ?_ (by assumption))⟩
        ·
         rw [if_neg c9] at H
         have c9b0 : decide (8 ≤ a0_3) = false := decide_eq_false c9
         clear c9
         obtain rfl := Option.some.inj H
         go_enter Try.func52, Try.ntmps52
         go_wp2_with (first | ((with_reducible refine gate_dst (N := 1) rfl ?_); refine box_event rfl (N := 1) rfl (cs := #[.int .i64 a0_0, .int .i64 a0_1, .int .i64 a0_2, .int .i64 a0_3]) (t := 24) (by go_simp; try rfl) ?_; intro gb382 hg w12 hbox hb; have BK382 := Aside0.mk (hbox); have GW382 := Aside0.mk ((by rw [hg]; exact (sZ HB) : w.heap.size ≤ gb382)); have GE382 := Aside0.mk ((by rw [hg]; exact (sZ HB) : w.heap.size ≤ gb382)); replace HB := kH HB hb; clear hb hbox hg; obtain ⟨hcz13_0, hcz13_1, hcz13_2, hcz13_3, hfz13_0, hfz13_1, hfz13_2, hfz13_3⟩ := cs4 BK382.out))
         go_ret
         exact ⟨by first | rfl | (simp [errW_none, errW_some] <;> rfl) | (simp [*, errW_none, errW_some] <;> rfl), by repeat (first | exact sH HB.out | refine sN (w := w) ?_ | with_reducible refine sG (w := w) ?_ (by assumption))⟩
       ·
        rw [if_neg c8] at H
        have c8b0 : decide (32 ≤ (wrap64 (a0_0 * a0_2))) = false := decide_eq_false c8
        clear c8
        obtain rfl := Option.some.inj H
        go_enter Try.func52, Try.ntmps52
        go_wp2_with (first | ((with_reducible refine gate_dst (N := 1) rfl ?_); refine box_event rfl (N := 1) rfl (cs := #[.int .i64 a0_0, .int .i64 a0_1, .int .i64 a0_2, .int .i64 a0_3]) (t := 24) (by go_simp; try rfl) ?_; intro gb382 hg w14 hbox hb; have BK382 := Aside0.mk (hbox); have GW382 := Aside0.mk ((by rw [hg]; exact (sZ HB) : w.heap.size ≤ gb382)); have GE382 := Aside0.mk ((by rw [hg]; exact (sZ HB) : w.heap.size ≤ gb382)); replace HB := kH HB hb; clear hb hbox hg; obtain ⟨hcz15_0, hcz15_1, hcz15_2, hcz15_3, hfz15_0, hfz15_1, hfz15_2, hfz15_3⟩ := cs4 BK382.out))
        go_ret
        exact ⟨by first | rfl | (simp [errW_none, errW_some] <;> rfl) | (simp [*, errW_none, errW_some] <;> rfl), by repeat (first | exact sH HB.out | refine sN (w := w) ?_ | with_reducible refine sG (w := w) ?_ (by assumption))⟩
      ·
       rw [if_neg c7] at H
       have c7b0 : decide (a0_2 ≤ 64) = false := decide_eq_false c7
       clear c7
       obtain rfl := Option.some.inj H
       go_enter Try.func52, Try.ntmps52
       go_wp2_with (first | ((with_reducible refine gate_dst (N := 1) rfl ?_); refine box_event rfl (N := 1) rfl (cs := #[.int .i64 a0_0, .int .i64 a0_1, .int .i64 a0_2, .int .i64 a0_3]) (t := 24) (by go_simp; try rfl) ?_; intro gb382 hg w16 hbox hb; have BK382 := Aside0.mk (hbox); have GW382 := Aside0.mk ((by rw [hg]; exact (sZ HB) : w.heap.size ≤ gb382)); have GE382 := Aside0.mk ((by rw [hg]; exact (sZ HB) : w.heap.size ≤ gb382)); replace HB := kH HB hb; clear hb hbox hg; obtain ⟨hcz17_0, hcz17_1, hcz17_2, hcz17_3, hfz17_0, hfz17_1, hfz17_2, hfz17_3⟩ := cs4 BK382.out))
       go_ret
       exact ⟨by first | rfl | (simp [errW_none, errW_some] <;> rfl) | (simp [*, errW_none, errW_some] <;> rfl), by repeat (first | exact sH HB.out | refine sN (w := w) ?_ | with_reducible refine sG (w := w) ?_ (by assumption))⟩
     ·
      rw [if_neg c6] at H
      have c6b0 : decide (8 ≤ a0_2) = false := decide_eq_false c6
      clear c6
      obtain rfl := Option.some.inj H
      go_enter Try.func52, Try.ntmps52
      go_wp2_with (first | ((with_reducible refine gate_dst (N := 1) rfl ?_); refine box_event rfl (N := 1) rfl (cs := #[.int .i64 a0_0, .int .i64 a0_1, .int .i64 a0_2, .int .i64 a0_3]) (t := 24) (by go_simp; try rfl) ?_; intro gb382 hg w18 hbox hb; have BK382 := Aside0.mk (hbox); have GW382 := Aside0.mk ((by rw [hg]; exact (sZ HB) : w.heap.size ≤ gb382)); have GE382 := Aside0.mk ((by rw [hg]; exact (sZ HB) : w.heap.size ≤ gb382)); replace HB := kH HB hb; clear hb hbox hg; obtain ⟨hcz19_0, hcz19_1, hcz19_2, hcz19_3, hfz19_0, hfz19_1, hfz19_2, hfz19_3⟩ := cs4 BK382.out))
      go_ret
      exact ⟨by first | rfl | (simp [errW_none, errW_some] <;> rfl) | (simp [*, errW_none, errW_some] <;> rfl), by repeat (first | exact sH HB.out | refine sN (w := w) ?_ | with_reducible refine sG (w := w) ?_ (by assumption))⟩
    ·
     rw [if_neg c5] at H
     have c5b0 : decide (a0_1 ≤ 4) = false := decide_eq_false c5
     clear c5
     obtain rfl := Option.some.inj H
     go_enter Try.func52, Try.ntmps52
     go_wp2_with (first | ((with_reducible refine gate_dst (N := 1) rfl ?_); refine box_event rfl (N := 1) rfl (cs := #[.int .i64 a0_0, .int .i64 a0_1, .int .i64 a0_2, .int .i64 a0_3]) (t := 24) (by go_simp; try rfl) ?_; intro gb382 hg w20 hbox hb; have BK382 := Aside0.mk (hbox); have GW382 := Aside0.mk ((by rw [hg]; exact (sZ HB) : w.heap.size ≤ gb382)); have GE382 := Aside0.mk ((by rw [hg]; exact (sZ HB) : w.heap.size ≤ gb382)); replace HB := kH HB hb; clear hb hbox hg; obtain ⟨hcz21_0, hcz21_1, hcz21_2, hcz21_3, hfz21_0, hfz21_1, hfz21_2, hfz21_3⟩ := cs4 BK382.out))
     go_ret
     exact ⟨by first | rfl | (simp [errW_none, errW_some] <;> rfl) | (simp [*, errW_none, errW_some] <;> rfl), by repeat (first | exact sH HB.out | refine sN (w := w) ?_ | with_reducible refine sG (w := w) ?_ (by assumption))⟩
   ·
    rw [if_neg c4] at H
    have c4b0 : decide (0 ≤ a0_1) = false := decide_eq_false c4
    clear c4
    obtain rfl := Option.some.inj H
    go_enter Try.func52, Try.ntmps52
    go_wp2_with (first | ((with_reducible refine gate_dst (N := 1) rfl ?_); refine box_event rfl (N := 1) rfl (cs := #[.int .i64 a0_0, .int .i64 a0_1, .int .i64 a0_2, .int .i64 a0_3]) (t := 24) (by go_simp; try rfl) ?_; intro gb382 hg w22 hbox hb; have BK382 := Aside0.mk (hbox); have GW382 := Aside0.mk ((by rw [hg]; exact (sZ HB) : w.heap.size ≤ gb382)); have GE382 := Aside0.mk ((by rw [hg]; exact (sZ HB) : w.heap.size ≤ gb382)); replace HB := kH HB hb; clear hb hbox hg; obtain ⟨hcz23_0, hcz23_1, hcz23_2, hcz23_3, hfz23_0, hfz23_1, hfz23_2, hfz23_3⟩ := cs4 BK382.out))
    go_ret
    exact ⟨by first | rfl | (simp [errW_none, errW_some] <;> rfl) | (simp [*, errW_none, errW_some] <;> rfl), by repeat (first | exact sH HB.out | refine sN (w := w) ?_ | with_reducible refine sG (w := w) ?_ (by assumption))⟩
  ·
   rw [if_neg c3] at H
   have c3b0 : decide (a0_0 ≤ 12) = false := decide_eq_false c3
   clear c3
   obtain rfl := Option.some.inj H
   go_enter Try.func52, Try.ntmps52
   go_wp2_with (first | ((with_reducible refine gate_dst (N := 1) rfl ?_); refine box_event rfl (N := 1) rfl (cs := #[.int .i64 a0_0, .int .i64 a0_1, .int .i64 a0_2, .int .i64 a0_3]) (t := 24) (by go_simp; try rfl) ?_; intro gb382 hg w24 hbox hb; have BK382 := Aside0.mk (hbox); have GW382 := Aside0.mk ((by rw [hg]; exact (sZ HB) : w.heap.size ≤ gb382)); have GE382 := Aside0.mk ((by rw [hg]; exact (sZ HB) : w.heap.size ≤ gb382)); replace HB := kH HB hb; clear hb hbox hg; obtain ⟨hcz25_0, hcz25_1, hcz25_2, hcz25_3, hfz25_0, hfz25_1, hfz25_2, hfz25_3⟩ := cs4 BK382.out))
   go_ret
   exact ⟨by first | rfl | (simp [errW_none, errW_some] <;> rfl) | (simp [*, errW_none, errW_some] <;> rfl), by repeat (first | exact sH HB.out | refine sN (w := w) ?_ | with_reducible refine sG (w := w) ?_ (by assumption))⟩
 ·
  rw [if_neg c2] at H
  have c2b0 : decide (1 ≤ a0_0) = false := decide_eq_false c2
  clear c2
  obtain rfl := Option.some.inj H
  go_enter Try.func52, Try.ntmps52
  go_wp2_with (first | ((with_reducible refine gate_dst (N := 1) rfl ?_); refine box_event rfl (N := 1) rfl (cs := #[.int .i64 a0_0, .int .i64 a0_1, .int .i64 a0_2, .int .i64 a0_3]) (t := 24) (by go_simp; try rfl) ?_; intro gb382 hg w26 hbox hb; have BK382 := Aside0.mk (hbox); have GW382 := Aside0.mk ((by rw [hg]; exact (sZ HB) : w.heap.size ≤ gb382)); have GE382 := Aside0.mk ((by rw [hg]; exact (sZ HB) : w.heap.size ≤ gb382)); replace HB := kH HB hb; clear hb hbox hg; obtain ⟨hcz27_0, hcz27_1, hcz27_2, hcz27_3, hfz27_0, hfz27_1, hfz27_2, hfz27_3⟩ := cs4 BK382.out))
  go_ret
  exact ⟨by first | rfl | (simp [errW_none, errW_some] <;> rfl) | (simp [*, errW_none, errW_some] <;> rfl), by repeat (first | exact sH HB.out | refine sN (w := w) ?_ | with_reducible refine sG (w := w) ?_ (by assumption))⟩

def twoslotref06_Size.f (a0_0 : Int) (a0_1 : Int) (a0_2 : Int) (a0_3 : Int) : Option (Int) := (twoslotref06_N.f a0_0 a0_1 a0_2 a0_3).bind fun t384 => (some (wrap64 ((wrap64 (12 + (wrap64 (4 * t384)))) + a0_2)))
def twoslotref06_Size.T1 : Bool × List (List Nat × List Nat) := (true, [([], []), ([0], [0]), ([1], [1]), ([2], [2]), ([], []), ([4], [4]), ([3, 5], [3, 5]), ([6, 1, 0, 1, 2, 3, 4, 5, 6], [6])])
def twoslotref06_Size.B1 : List Nat := [0, 1, 3, 7, 0, 16, 63, 127]
theorem twoslotref06_Size.tab1 : rtab .any (opsOf Try.f53 1) = twoslotref06_Size.T1 := by kernel_rfl
theorem twoslotref06_Size.bits1 : waitsOk twoslotref06_Size.T1.2 twoslotref06_Size.B1 = true := by kernel_rfl
set_option maxHeartbeats 8000000 in
set_option maxRecDepth 100000 in
theorem twoslotref06_Size.calls (a0_0 : Int) (a0_1 : Int) (a0_2 : Int) (a0_3 : Int) (r : Int) (w : World) (h : twoslotref06_Size.f a0_0 a0_1 a0_2 a0_3 = some r) :
  Calls Try.prog 53 #[.agg #[.int .i64 a0_0, .int .i64 a0_1, .int .i64 a0_2, .int .i64 a0_3]] w fun e w' => e = .returned (.int .i64 r) ∧ Below w.heap.size w w' := by
 have hu24 := Try.underlying24
 have HB := Aside0.mk (Below.refl w.heap.size w)
 have H : ((twoslotref06_N.f a0_0 a0_1 a0_2 a0_3).bind fun t384 => (some (wrap64 ((wrap64 (12 + (wrap64 (4 * t384)))) + a0_2)))) = some r := h
 clear h
 replace H := Option.bind_eq_some_iff.mp H
 obtain ⟨t384, A20, H⟩ := H
 try dsimp only at H
 have A2 := Aside0.mk A20
 clear A20
 obtain rfl := Option.some.inj H
 go_enter Try.func53, Try.ntmps53
 try go_wp2_with (first | ((with_reducible refine gate_dst (N := 1) rfl ?_); refine box_event rfl (N := 1) rfl (cs := #[.int .i64 a0_0, .int .i64 a0_1, .int .i64 a0_2, .int .i64 a0_3]) (t := 24) (by go_simp; try rfl) ?_; intro gb383 hg w3 hbox hb; have BK383 := Aside0.mk (hbox); have GW383 := Aside0.mk ((by rw [hg]; exact (sZ HB) : w.heap.size ≤ gb383)); have GE383 := Aside0.mk ((by rw [hg]; exact (sZ HB) : w.heap.size ≤ gb383)); replace HB := kH HB hb; clear hb hbox hg))
 replace BK383 := Aside0.mk (blk_drew BK383.out); replace HB := Aside0.mk (below_drew1 HB.out)
 refine start_ (n := 8) (S := fun w' => w'.cell? ⟨gb383, 0, none⟩ = some (.int .i64 a0_0) ∧ w'.cell? ⟨gb383, 1, none⟩ = some (.int .i64 a0_1) ∧ w'.cell? ⟨gb383, 2, none⟩ = some (.int .i64 a0_2) ∧ w'.cell? ⟨gb383, 3, none⟩ = some (.int .i64 a0_3)) (ds := []) #[O,O,O,O,O,O,O,O] (by kernel_rfl) rfl rfl ⟨(blk_cell BK383.out 0).trans rfl, (blk_cell BK383.out 1).trans rfl, (blk_cell BK383.out 2).trans rfl, (blk_cell BK383.out 3).trans rfl⟩ (fun hHeld => ?_); refine with_tabW twoslotref06_Size.tab1 twoslotref06_Size.bits1 (fun HT_ HW_ => ?_)
 generalize w3.drew = w4 at BK383 HB hHeld ⊢
 refine pu (i := 4) (N := some 7) (v := ?_) (a' := ?_) #[O,O,O,O,X,O,O,O] rfl rfl HT_ (by kernel_rfl) (fun _ _ _ h => h) ⟨by rfl, ?_⟩ ?_ ?_
 rotate_left; (intro w'; go_simp; with_reducible rfl); rotate_left; (simp only [sP]; rfl)
 refine tu (i := 0) (N := some 3) (v := ?_) (a' := ?_) #[X,O,O,O,X,O,O,O] rfl rfl HT_ HW_ (by kernel_rfl) (fun _ _ _ h => h) ⟨by rfl, ?_⟩ hHeld ?_ ?_
 rotate_left; (rintro w' ⟨s0, s1, s2, s3⟩; go_simp; with_reducible rfl); rotate_left; (simp only [sP]; rfl)
 refine tu (i := 5) (N := some 8) (v := ?_) (a' := ?_) #[X,O,O,O,X,X,O,O] rfl rfl HT_ HW_ (by kernel_rfl) (fun _ _ _ h => h) ⟨by rfl, ?_⟩ hHeld ?_ ?_
 rotate_left; (rintro w' ⟨s0, s1, s2, s3⟩; go_simp; with_reducible rfl); rotate_left; (simp only [sP]; rfl)
 refine one_ (i := 1) (N := some 4) #[X,X,O,O,X,X,O,O] rfl rfl (one_of HT_.out (by kernel_rfl)) (by decide) (fun K hK => ?_)
 refine goes_ Try.func51 (by kernel_rfl) rfl #[.agg #[.int .i64 a0_0, .int .i64 a0_1, .int .i64 a0_2, .int .i64 a0_3]] (by rfl) rfl rfl (by (try simp only [sM]); first | done | rfl | (simp only [sT]; rfl)) ?_
 with_reducible refine (twoslotref06_N.calls a0_0 a0_1 a0_2 a0_3 t384 _ A2.out).mono ?_
 rintro e w5 ⟨rfl, hb⟩
 refine ⟨_, rfl, ?_⟩
 replace BK383 := kB BK383 hb; replace HB := Aside0.mk (below_step (by repeat (first | exact sH HB.out | refine sN (w := w) ?_ | with_reducible refine sG (w := w) ?_ (by assumption))) hb)
 (try clear hb)
 (try clear hb2)
 (try clear hk)
 (try clear hi)
 refine hK.out _ _ ⟨(blk_cell BK383.out 0).trans rfl, (blk_cell BK383.out 1).trans rfl, (blk_cell BK383.out 2).trans rfl, (blk_cell BK383.out 3).trans rfl⟩ (fun hHeld => ?_)
 clear hK K
 refine norm_ (a' := ?_) ?_ ?_
 rotate_left
 ·
  show Act.put _ (some 4) _ = _
  simp only [sP]
  rfl
 refine pu (i := 2) (N := some 5) (v := ?_) (a' := ?_) #[X,X,X,O,X,X,O,O] rfl rfl HT_ (by kernel_rfl) (fun _ _ _ h => h) ⟨by rfl, ?_⟩ ?_ ?_
 rotate_left; (intro w'; go_simp; with_reducible rfl); rotate_left; (simp only [sP]; rfl)
 refine pu (i := 3) (N := some 6) (v := ?_) (a' := ?_) #[X,X,X,X,X,X,O,O] rfl rfl HT_ (by kernel_rfl) (fun _ _ _ h => h) ⟨by rfl, ?_⟩ ?_ ?_
 rotate_left; (intro w'; go_simp; with_reducible rfl); rotate_left; (simp only [sP]; rfl)
 refine pu (i := 6) (N := some 9) (v := ?_) (a' := ?_) #[X,X,X,X,X,X,X,O] rfl rfl HT_ (by kernel_rfl) (fun _ _ _ h => h) ⟨by rfl, ?_⟩ ?_ ?_
 rotate_left; (intro w'; go_simp; with_reducible rfl); rotate_left; (simp only [sP]; rfl)
 refine pu (i := 7) (N := some 2) (v := ?_) (a' := ?_) #[X,X,X,X,X,X,X,X] rfl rfl HT_ (by kernel_rfl) (fun _ _ _ h => h) ⟨by rfl, ?_⟩ ?_ ?_
 rotate_left; (intro w'; go_simp; with_reducible rfl); rotate_left; (simp only [sP]; rfl)
 refine done_ (done_of HT_.out (by kernel_rfl)) ?_
 try go_wp2
 go_ret
 exact ⟨by first | rfl | (simp [errW_none, errW_some] <;> rfl) | (simp [*, errW_none, errW_some] <;> rfl), by repeat (first | exact sH HB.out | refine sN (w := w) ?_ | with_reducible refine sG (w := w) ?_ (by assumption))⟩

end Go.Proofs.Ytcnmocbiekfpbaa.P

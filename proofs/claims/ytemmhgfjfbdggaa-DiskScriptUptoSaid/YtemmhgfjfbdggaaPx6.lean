-- Written by a program of this session, after the kit's print.
import Derived.Test.YtemmhgfjfbdggaaPx0
import Derived.Test.YtemmhgfjfbdggaaM8h
import Derived.Test.YtemmhgfjfbdggaaPx2
import Derived.Test.YtemmhgfjfbdggaaPx3
namespace Go.Proofs.Ytemmhgfjfbdggaa.P
open Go.RowKit Go.Proofs.YtemmhgfjfbdggaaW.PrintWords Go.Proofs.YtemmhgfjfbdggaaW.PrintLast Go.Proofs.YtemmhgfjfbdggaaW.PrintMore
attribute [local go_sem] max2_int min2_int max_two min_two max_three min_three max_four min_four   -- for this text's walks alone
set_option linter.unusedVariables false
set_option linter.unusedSimpArgs false

def twoslotref08_There.f (a0_0 : Int) (a0_1 : Int) (a0_2 : Int) (a0_3 : Int) (a1 : Int) (a2 : Int) (a3 : Int) : Option (Int) := if a1 < 0 then (some (-1)) else ((twoslotref06_N.f a0_0 a0_1 a0_2 a0_3).bind fun t165 => (if a1 ≥ t165 then (some (-1)) else (if a2 < 0 then (some (-1)) else (if a2 ≥ a0_3 then (some (-1)) else (if a3 < 0 then (some (-1)) else (if a3 > 1 then (some (-1)) else (some (wrap64 ((wrap64 ((wrap64 ((wrap64 (a1 * a0_3)) + a2)) * 2)) + a3)))))))))
set_option maxHeartbeats 8000000 in
set_option maxRecDepth 100000 in
theorem twoslotref08_There.calls (a0_0 : Int) (a0_1 : Int) (a0_2 : Int) (a0_3 : Int) (a1 : Int) (a2 : Int) (a3 : Int) (r : Int) (w : World) (h : twoslotref08_There.f a0_0 a0_1 a0_2 a0_3 a1 a2 a3 = some r) :
  Calls Try.prog 53 #[.agg #[.int .i64 a0_0, .int .i64 a0_1, .int .i64 a0_2, .int .i64 a0_3], .int .i64 a1, .int .i64 a2, .int .i64 a3] w fun e w' => e = .returned (.int .i64 r) ∧ Below w.heap.size w w' := by
 have hu23 := Try.underlying23
 have HB := Aside0.mk (Below.refl w.heap.size w)
 have H : (if a1 < 0 then (some (-1)) else ((twoslotref06_N.f a0_0 a0_1 a0_2 a0_3).bind fun t165 => (if a1 ≥ t165 then (some (-1)) else (if a2 < 0 then (some (-1)) else (if a2 ≥ a0_3 then (some (-1)) else (if a3 < 0 then (some (-1)) else (if a3 > 1 then (some (-1)) else (some (wrap64 ((wrap64 ((wrap64 ((wrap64 (a1 * a0_3)) + a2)) * 2)) + a3)))))))))) = some r := h
 clear h
 by_cases c5 : a1 < 0
 ·
  rw [if_pos c5] at H
  have c5b0 : decide (a1 < 0) = true := decide_eq_true c5
  clear c5
  obtain rfl := Option.some.inj H
  go_enter Try.func53, Try.ntmps53
  go_wp2_with (first | ((with_reducible refine gate_dst (N := 4) rfl ?_); refine box_event rfl (N := 4) rfl (cs := #[.int .i64 a0_0, .int .i64 a0_1, .int .i64 a0_2, .int .i64 a0_3]) (t := 23) (by go_simp; try rfl) ?_; intro gb164 hg w6 hbox hb; have BK164 := Aside0.mk (hbox); have GW164 := Aside0.mk ((by rw [hg]; exact (sZ HB) : w.heap.size ≤ gb164)); have GE164 := Aside0.mk ((by rw [hg]; exact (sZ HB) : w.heap.size ≤ gb164)); replace HB := kH HB hb; clear hb hbox hg))
  go_ret
  exact ⟨by first | rfl | (simp [errW_none, errW_some] <;> rfl) | (simp [*, errW_none, errW_some] <;> rfl), by repeat (first | exact sH HB.out | refine sN (w := w) ?_ | with_reducible refine sG (w := w) ?_ (by assumption))⟩
 ·
  rw [if_neg c5] at H
  have c5b0 : decide (a1 < 0) = false := decide_eq_false c5
  clear c5
  replace H := Option.bind_eq_some_iff.mp H
  obtain ⟨t165, A70, H⟩ := H
  try dsimp only at H
  have A7 := Aside0.mk A70
  clear A70
  by_cases c8 : a1 ≥ t165
  ·
   rw [if_pos c8] at H
   have c8b0 : decide (t165 ≤ a1) = true := decide_eq_true c8
   clear c8
   obtain rfl := Option.some.inj H
   go_enter Try.func53, Try.ntmps53
   go_wp2_with (first | ((with_reducible refine gate_dst (N := 4) rfl ?_); refine box_event rfl (N := 4) rfl (cs := #[.int .i64 a0_0, .int .i64 a0_1, .int .i64 a0_2, .int .i64 a0_3]) (t := 23) (by go_simp; try rfl) ?_; intro gb164 hg w9 hbox hb; have BK164 := Aside0.mk (hbox); have GW164 := Aside0.mk ((by rw [hg]; exact (sZ HB) : w.heap.size ≤ gb164)); have GE164 := Aside0.mk ((by rw [hg]; exact (sZ HB) : w.heap.size ≤ gb164)); replace HB := kH HB hb; clear hb hbox hg; obtain ⟨hcz10_0, hcz10_1, hcz10_2, hcz10_3, hfz10_0, hfz10_1, hfz10_2, hfz10_3⟩ := cs4 BK164.out) | (go_at_call 41; (with_reducible refine (twoslotref06_N.calls a0_0 a0_1 a0_2 a0_3 t165 _ A7.out).mono ?_); rintro e w11 ⟨rfl, hb⟩; replace BK164 := kB BK164 hb; replace HB := Aside0.mk (below_step (by repeat (first | exact sH HB.out | refine sN (w := w) ?_ | with_reducible refine sG (w := w) ?_ (by assumption))) hb); (try clear hb); (try clear hb2); (try clear hk); (try clear hi)))
   go_ret
   exact ⟨by first | rfl | (simp [errW_none, errW_some] <;> rfl) | (simp [*, errW_none, errW_some] <;> rfl), by repeat (first | exact sH HB.out | refine sN (w := w) ?_ | with_reducible refine sG (w := w) ?_ (by assumption))⟩
  ·
   rw [if_neg c8] at H
   have c8b0 : decide (t165 ≤ a1) = false := decide_eq_false c8
   clear c8
   by_cases c12 : a2 < 0
   ·
    rw [if_pos c12] at H
    have c12b0 : decide (a2 < 0) = true := decide_eq_true c12
    clear c12
    obtain rfl := Option.some.inj H
    go_enter Try.func53, Try.ntmps53
    go_wp2_with (first | ((with_reducible refine gate_dst (N := 4) rfl ?_); refine box_event rfl (N := 4) rfl (cs := #[.int .i64 a0_0, .int .i64 a0_1, .int .i64 a0_2, .int .i64 a0_3]) (t := 23) (by go_simp; try rfl) ?_; intro gb164 hg w13 hbox hb; have BK164 := Aside0.mk (hbox); have GW164 := Aside0.mk ((by rw [hg]; exact (sZ HB) : w.heap.size ≤ gb164)); have GE164 := Aside0.mk ((by rw [hg]; exact (sZ HB) : w.heap.size ≤ gb164)); replace HB := kH HB hb; clear hb hbox hg; obtain ⟨hcz14_0, hcz14_1, hcz14_2, hcz14_3, hfz14_0, hfz14_1, hfz14_2, hfz14_3⟩ := cs4 BK164.out) | (go_at_call 41; (with_reducible refine (twoslotref06_N.calls a0_0 a0_1 a0_2 a0_3 t165 _ A7.out).mono ?_); rintro e w15 ⟨rfl, hb⟩; replace BK164 := kB BK164 hb; replace HB := Aside0.mk (below_step (by repeat (first | exact sH HB.out | refine sN (w := w) ?_ | with_reducible refine sG (w := w) ?_ (by assumption))) hb); (try clear hb); (try clear hb2); (try clear hk); (try clear hi)))
    go_ret
    exact ⟨by first | rfl | (simp [errW_none, errW_some] <;> rfl) | (simp [*, errW_none, errW_some] <;> rfl), by repeat (first | exact sH HB.out | refine sN (w := w) ?_ | with_reducible refine sG (w := w) ?_ (by assumption))⟩
   ·
    rw [if_neg c12] at H
    have c12b0 : decide (a2 < 0) = false := decide_eq_false c12
    clear c12
    by_cases c16 : a2 ≥ a0_3
    ·
     rw [if_pos c16] at H
     have c16b0 : decide (a0_3 ≤ a2) = true := decide_eq_true c16
     clear c16
     obtain rfl := Option.some.inj H
     go_enter Try.func53, Try.ntmps53
     go_wp2_with (first | ((with_reducible refine gate_dst (N := 4) rfl ?_); refine box_event rfl (N := 4) rfl (cs := #[.int .i64 a0_0, .int .i64 a0_1, .int .i64 a0_2, .int .i64 a0_3]) (t := 23) (by go_simp; try rfl) ?_; intro gb164 hg w17 hbox hb; have BK164 := Aside0.mk (hbox); have GW164 := Aside0.mk ((by rw [hg]; exact (sZ HB) : w.heap.size ≤ gb164)); have GE164 := Aside0.mk ((by rw [hg]; exact (sZ HB) : w.heap.size ≤ gb164)); replace HB := kH HB hb; clear hb hbox hg; obtain ⟨hcz18_0, hcz18_1, hcz18_2, hcz18_3, hfz18_0, hfz18_1, hfz18_2, hfz18_3⟩ := cs4 BK164.out) | (go_at_call 41; (with_reducible refine (twoslotref06_N.calls a0_0 a0_1 a0_2 a0_3 t165 _ A7.out).mono ?_); rintro e w19 ⟨rfl, hb⟩; replace BK164 := kB BK164 hb; replace HB := Aside0.mk (below_step (by repeat (first | exact sH HB.out | refine sN (w := w) ?_ | with_reducible refine sG (w := w) ?_ (by assumption))) hb); (try clear hb); (try clear hb2); (try clear hk); (try clear hi); obtain ⟨hcz20_0, hcz20_1, hcz20_2, hcz20_3, hfz20_0, hfz20_1, hfz20_2, hfz20_3⟩ := cs4 BK164.out))
     go_ret
     exact ⟨by first | rfl | (simp [errW_none, errW_some] <;> rfl) | (simp [*, errW_none, errW_some] <;> rfl), by repeat (first | exact sH HB.out | refine sN (w := w) ?_ | with_reducible refine sG (w := w) ?_ (by assumption))⟩
    ·
     rw [if_neg c16] at H
     have c16b0 : decide (a0_3 ≤ a2) = false := decide_eq_false c16
     clear c16
     by_cases c21 : a3 < 0
     ·
      rw [if_pos c21] at H
      have c21b0 : decide (a3 < 0) = true := decide_eq_true c21
      clear c21
      obtain rfl := Option.some.inj H
      go_enter Try.func53, Try.ntmps53
      go_wp2_with (first | ((with_reducible refine gate_dst (N := 4) rfl ?_); refine box_event rfl (N := 4) rfl (cs := #[.int .i64 a0_0, .int .i64 a0_1, .int .i64 a0_2, .int .i64 a0_3]) (t := 23) (by go_simp; try rfl) ?_; intro gb164 hg w22 hbox hb; have BK164 := Aside0.mk (hbox); have GW164 := Aside0.mk ((by rw [hg]; exact (sZ HB) : w.heap.size ≤ gb164)); have GE164 := Aside0.mk ((by rw [hg]; exact (sZ HB) : w.heap.size ≤ gb164)); replace HB := kH HB hb; clear hb hbox hg; obtain ⟨hcz23_0, hcz23_1, hcz23_2, hcz23_3, hfz23_0, hfz23_1, hfz23_2, hfz23_3⟩ := cs4 BK164.out) | (go_at_call 41; (with_reducible refine (twoslotref06_N.calls a0_0 a0_1 a0_2 a0_3 t165 _ A7.out).mono ?_); rintro e w24 ⟨rfl, hb⟩; replace BK164 := kB BK164 hb; replace HB := Aside0.mk (below_step (by repeat (first | exact sH HB.out | refine sN (w := w) ?_ | with_reducible refine sG (w := w) ?_ (by assumption))) hb); (try clear hb); (try clear hb2); (try clear hk); (try clear hi); obtain ⟨hcz25_0, hcz25_1, hcz25_2, hcz25_3, hfz25_0, hfz25_1, hfz25_2, hfz25_3⟩ := cs4 BK164.out))
      go_ret
      exact ⟨by first | rfl | (simp [errW_none, errW_some] <;> rfl) | (simp [*, errW_none, errW_some] <;> rfl), by repeat (first | exact sH HB.out | refine sN (w := w) ?_ | with_reducible refine sG (w := w) ?_ (by assumption))⟩
     ·
      rw [if_neg c21] at H
      have c21b0 : decide (a3 < 0) = false := decide_eq_false c21
      clear c21
      by_cases c26 : a3 > 1
      ·
       rw [if_pos c26] at H
       have c26b0 : decide (1 < a3) = true := decide_eq_true c26
       clear c26
       obtain rfl := Option.some.inj H
       go_enter Try.func53, Try.ntmps53
       go_wp2_with (first | ((with_reducible refine gate_dst (N := 4) rfl ?_); refine box_event rfl (N := 4) rfl (cs := #[.int .i64 a0_0, .int .i64 a0_1, .int .i64 a0_2, .int .i64 a0_3]) (t := 23) (by go_simp; try rfl) ?_; intro gb164 hg w27 hbox hb; have BK164 := Aside0.mk (hbox); have GW164 := Aside0.mk ((by rw [hg]; exact (sZ HB) : w.heap.size ≤ gb164)); have GE164 := Aside0.mk ((by rw [hg]; exact (sZ HB) : w.heap.size ≤ gb164)); replace HB := kH HB hb; clear hb hbox hg; obtain ⟨hcz28_0, hcz28_1, hcz28_2, hcz28_3, hfz28_0, hfz28_1, hfz28_2, hfz28_3⟩ := cs4 BK164.out) | (go_at_call 41; (with_reducible refine (twoslotref06_N.calls a0_0 a0_1 a0_2 a0_3 t165 _ A7.out).mono ?_); rintro e w29 ⟨rfl, hb⟩; replace BK164 := kB BK164 hb; replace HB := Aside0.mk (below_step (by repeat (first | exact sH HB.out | refine sN (w := w) ?_ | with_reducible refine sG (w := w) ?_ (by assumption))) hb); (try clear hb); (try clear hb2); (try clear hk); (try clear hi); obtain ⟨hcz30_0, hcz30_1, hcz30_2, hcz30_3, hfz30_0, hfz30_1, hfz30_2, hfz30_3⟩ := cs4 BK164.out))
       go_ret
       exact ⟨by first | rfl | (simp [errW_none, errW_some] <;> rfl) | (simp [*, errW_none, errW_some] <;> rfl), by repeat (first | exact sH HB.out | refine sN (w := w) ?_ | with_reducible refine sG (w := w) ?_ (by assumption))⟩
      ·
       rw [if_neg c26] at H
       have c26b0 : decide (1 < a3) = false := decide_eq_false c26
       clear c26
       obtain rfl := Option.some.inj H
       go_enter Try.func53, Try.ntmps53
       go_wp2_with (first | ((with_reducible refine gate_dst (N := 4) rfl ?_); refine box_event rfl (N := 4) rfl (cs := #[.int .i64 a0_0, .int .i64 a0_1, .int .i64 a0_2, .int .i64 a0_3]) (t := 23) (by go_simp; try rfl) ?_; intro gb164 hg w31 hbox hb; have BK164 := Aside0.mk (hbox); have GW164 := Aside0.mk ((by rw [hg]; exact (sZ HB) : w.heap.size ≤ gb164)); have GE164 := Aside0.mk ((by rw [hg]; exact (sZ HB) : w.heap.size ≤ gb164)); replace HB := kH HB hb; clear hb hbox hg; obtain ⟨hcz32_0, hcz32_1, hcz32_2, hcz32_3, hfz32_0, hfz32_1, hfz32_2, hfz32_3⟩ := cs4 BK164.out) | (go_at_call 41; (with_reducible refine (twoslotref06_N.calls a0_0 a0_1 a0_2 a0_3 t165 _ A7.out).mono ?_); rintro e w33 ⟨rfl, hb⟩; replace BK164 := kB BK164 hb; replace HB := Aside0.mk (below_step (by repeat (first | exact sH HB.out | refine sN (w := w) ?_ | with_reducible refine sG (w := w) ?_ (by assumption))) hb); (try clear hb); (try clear hb2); (try clear hk); (try clear hi); obtain ⟨hcz34_0, hcz34_1, hcz34_2, hcz34_3, hfz34_0, hfz34_1, hfz34_2, hfz34_3⟩ := cs4 BK164.out))
       go_ret
       exact ⟨by first | rfl | (simp [errW_none, errW_some] <;> rfl) | (simp [*, errW_none, errW_some] <;> rfl), by repeat (first | exact sH HB.out | refine sN (w := w) ?_ | with_reducible refine sG (w := w) ?_ (by assumption))⟩

end Go.Proofs.Ytemmhgfjfbdggaa.P

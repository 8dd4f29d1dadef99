-- Written by a program of this session, after the kit's print.
import Derived.Test.YtppmkojpbgedmaaPx0
namespace Go.Proofs.Ytppmkojpbgedmaa.P
open Go.RowKit Go.Proofs.YtppmkojpbgedmaaW.PrintWords Go.Proofs.YtppmkojpbgedmaaW.PrintLast Go.Proofs.YtppmkojpbgedmaaW.PrintMore
attribute [local go_sem] max2_int min2_int max_two min_two max_three min_three max_four min_four   -- for this text's walks alone
set_option linter.unusedVariables false
set_option linter.unusedSimpArgs false

/-! ### twoslotlaw20_sample: function 8 -/
def twoslotlaw20_sample.f  : Option (Int × Int × Int × Int) := some (2, 1, 16, 8)
set_option maxHeartbeats 8000000 in
set_option maxRecDepth 100000 in
theorem twoslotlaw20_sample.calls  (r1 : Int) (r2 : Int) (r3 : Int) (r4 : Int) (w : World) (h : twoslotlaw20_sample.f  = some (r1, r2, r3, r4)) :
    Calls Try.prog 8 #[] w fun e w' => e = .returned (.agg #[.int .i64 r1, .int .i64 r2, .int .i64 r3, .int .i64 r4]) ∧ Below w.heap.size w w' := by
  have hu24 := Try.underlying24
  have HB := Aside0.mk (Below.refl w.heap.size w)
  have H : (some (2, 1, 16, 8)) = some (r1, r2, r3, r4) := h
  clear h
  simp only [Option.some.injEq, Prod.mk.injEq] at H
  obtain ⟨rfl, rfl, rfl, rfl⟩ := H
  go_enter Try.func8, Try.ntmps8
  go_wp2_with (first | ((with_reducible refine gate_dst (N := 0) rfl ?_); refine box_event ?hg (N := 0) ?hd (cs := #[.int .i64 0, .int .i64 0, .int .i64 0, .int .i64 0]) (t := 24) ?hr ?_; (case hd => rfl); (case hg => rfl); (case hr => first | (go_simp; done) | (go_simp; rfl)); intro gb101 hg w1 hbox hb; have n0_ := Aside0.mk (below_step (by repeat (first | (with_reducible first | exact HB.out | apply below_alloc | apply pw_below_drewN | apply below_drew1) | exact HB.out)) hb); have n1_ := Aside0.mk (hbox); have n2_ := Aside0.mk ((by rw [hg]; exact (below_size (by repeat (first | (with_reducible first | exact HB.out | apply below_alloc | apply pw_below_drewN | apply below_drew1) | exact HB.out))) : w.heap.size ≤ gb101)); have n3_ := Aside0.mk ((by rw [hg]; exact (below_size (by repeat (first | (with_reducible first | exact HB.out | apply below_alloc | apply pw_below_drewN | apply below_drew1) | exact HB.out))) : w.heap.size ≤ gb101)); clear HB; have HB := n0_; have BK101 := n1_; have GW101 := n2_; have GE101 := n3_; clear n0_ n1_ n2_ n3_; clear hb hbox hg; have hcz2_0 : w1.cell? ⟨gb101, 0, none⟩ = some (.int .i64 0) := (blk_cell BK101.out 0).trans rfl; have hcz2_1 : w1.cell? ⟨gb101, 1, none⟩ = some (.int .i64 0) := (blk_cell BK101.out 1).trans rfl; have hcz2_2 : w1.cell? ⟨gb101, 2, none⟩ = some (.int .i64 0) := (blk_cell BK101.out 2).trans rfl; have hcz2_3 : w1.cell? ⟨gb101, 3, none⟩ = some (.int .i64 0) := (blk_cell BK101.out 3).trans rfl; have hfz2_0 := blk_frozen BK101.out 0; have hfz2_1 := blk_frozen BK101.out 1; have hfz2_2 := blk_frozen BK101.out 2; have hfz2_3 := blk_frozen BK101.out 3))
  refine bodyPost_ret (results_cell_row rfl _ _ gb101 24 #[.int .i64 2, .int .i64 1, .int .i64 16, .int .i64 8] (0, 0) _ rfl (by (with_reducible repeat (first | refine blk_drewN ?_ _ | refine blk_drew ?_ | refine blk_alloc ?_ _)); refine blk_put (cs := #[.int .i64 2, .int .i64 1, .int .i64 16, .int .i64 0]) ?_ 3 _ rfl; (with_reducible repeat (first | refine blk_drewN ?_ _ | refine blk_drew ?_ | refine blk_alloc ?_ _)); refine blk_put (cs := #[.int .i64 2, .int .i64 1, .int .i64 0, .int .i64 0]) ?_ 2 _ rfl; (with_reducible repeat (first | refine blk_drewN ?_ _ | refine blk_drew ?_ | refine blk_alloc ?_ _)); refine blk_put (cs := #[.int .i64 2, .int .i64 0, .int .i64 0, .int .i64 0]) ?_ 1 _ rfl; (with_reducible repeat (first | refine blk_drewN ?_ _ | refine blk_drew ?_ | refine blk_alloc ?_ _)); refine blk_put (cs := #[.int .i64 0, .int .i64 0, .int .i64 0, .int .i64 0]) ?_ 0 _ rfl; (with_reducible repeat (first | refine blk_drewN ?_ _ | refine blk_drew ?_ | refine blk_alloc ?_ _)); exact BK101.out) Try.underlying24 rfl (by kernel_rfl)) rfl ?_
  exact ⟨by first | rfl | (simp [errW_none, errW_some] <;> rfl) | (simp [*, errW_none, errW_some] <;> rfl), by repeat (first | (with_reducible first | exact HB.out | apply below_alloc | apply pw_below_drewN | apply below_drew1 | refine below_set ?_ GE101.out) | exact HB.out)⟩

/-! ### layout_Check: function 19 (by hand) -/
theorem goesT_ {P : Program} {ops : Array Oper} {Q : Exit → Act → World → Prop} {oi : Oper} {N : Option Tmp} {a : Act} {w : World} {K : Act → World → Prop} {f : FuncId} {fn : Func} {x : Operand} {ops_ : Array Operand} {ts : Array TypeId} {first cap : Array Value} (hf : P.funcs[f]? = some fn) (hname : (fn.name == "runtime.NumGoroutine") = false) (hb : fn.body.isSome = true) (args : Array Value)
    (hw : Region.wanted oi (yielded ops a.tmps) = true) (hN : oi.dst = N) (hop : oi.op = .call { callee := .value x, args := ops_, argTypes := ts }) (hx : a.eval x = .func (.func f) first cap) (hargs : first ++ ops_.map a.eval ++ cap = args)
    (h : Calls P f args w fun e w' => ∃ v, e = .returned v ∧ K (a.put N v) w') : if Region.wanted oi (yielded ops a.tmps) = true then Oper.wp P oi a w K Q else K (a.put N undef) w := by
  refine call_ f args hw hN ?_ h
  have he := enters_ hf hname hb args w
  unfold execOp
  simp [hop, resolve, Deferred.ofValue, invoke, hx, hargs, he]
/-- May parameters be? -/
def okP (a b c d : Int) : Bool := decide (1 ≤ a ∧ a ≤ 12 ∧ 0 ≤ b ∧ b ≤ 4 ∧ 8 ≤ c ∧ c ≤ 64 ∧ 32 ≤ a * c ∧ 8 ≤ d ∧ d ≤ 256)
theorem okP_iff {a b c d : Int} : okP a b c d = true ↔ (1 ≤ a ∧ a ≤ 12 ∧ 0 ≤ b ∧ b ≤ 4 ∧ 8 ≤ c ∧ c ≤ 64 ∧ 32 ≤ a * c ∧ 8 ≤ d ∧ d ≤ 256) := by simp [okP]
theorem mul_small {a c : Int} (h1 : 1 ≤ a) (h2 : a ≤ 12) (h3 : 8 ≤ c) (h4 : c ≤ 64) : 8 ≤ a * c ∧ a * c ≤ 768 := by
  have l : 1 * c ≤ a * c := Int.mul_le_mul_of_nonneg_right h1 (by omega)
  have r : a * c ≤ 12 * c := Int.mul_le_mul_of_nonneg_right h2 (by omega)
  omega
def layout_Check.f (a0_0 : Int) (a0_1 : Int) (a0_2 : Int) (a0_3 : Int) : Option Int := some (if okP a0_0 a0_1 a0_2 a0_3 = true then 0 else 2)
set_option maxHeartbeats 8000000 in
set_option maxRecDepth 100000 in
theorem layout_Check.calls (a0_0 : Int) (a0_1 : Int) (a0_2 : Int) (a0_3 : Int) (r : Int) (w : World) (h : layout_Check.f a0_0 a0_1 a0_2 a0_3 = some r) :
    Calls Try.prog 19 #[.agg #[.int .i64 a0_0, .int .i64 a0_1, .int .i64 a0_2, .int .i64 a0_3]] w fun e w' => e = .returned (.int .i64 r) ∧ Below w.heap.size w w' := by
  have hu23 := Try.underlying24
  have HB := Aside0.mk (Below.refl w.heap.size w)
  obtain rfl : (if okP a0_0 a0_1 a0_2 a0_3 = true then 0 else 2) = r := by simpa [layout_Check.f] using h
  clear h
  by_cases c0 : a0_0 < 1
  · rw [if_neg (by rw [okP_iff]; omega)]
    go_enter Try.func19, Try.ntmps19
    go_wp2_with (((with_reducible refine gate_dst (N := 1) rfl ?_); refine box_event ?hg (N := 1) ?hd (cs := #[.int .i64 a0_0, .int .i64 a0_1, .int .i64 a0_2, .int .i64 a0_3]) (t := 24) ?hr ?_; (case hd => rfl); (case hg => rfl); (case hr => first | (go_simp; done) | (go_simp; rfl)); intro g1 hg w1 hbox hb; have n0_ := Aside0.mk (below_step (by repeat (first | (with_reducible first | exact HB.out | apply below_alloc | apply pw_below_drewN | apply below_drew1) | exact HB.out)) hb); have n1_ := Aside0.mk (hbox); have n2_ := Aside0.mk ((by rw [hg]; exact (below_size (by repeat (first | (with_reducible first | exact HB.out | apply below_alloc | apply pw_below_drewN | apply below_drew1) | exact HB.out)))) : w.heap.size ≤ g1); clear HB; have HB := n0_; have BKg1 := n1_; have GEg1 := n2_; clear n0_ n1_ n2_; clear hb hbox hg; have hca_g1_0 : w1.cell? ⟨g1, 0, none⟩ = some (.int .i64 a0_0) := (blk_cell BKg1.out 0).trans rfl; have hfa_g1_0 := blk_frozen BKg1.out 0; have hca_g1_1 : w1.cell? ⟨g1, 1, none⟩ = some (.int .i64 a0_1) := (blk_cell BKg1.out 1).trans rfl; have hfa_g1_1 := blk_frozen BKg1.out 1; have hca_g1_2 : w1.cell? ⟨g1, 2, none⟩ = some (.int .i64 a0_2) := (blk_cell BKg1.out 2).trans rfl; have hfa_g1_2 := blk_frozen BKg1.out 2; have hca_g1_3 : w1.cell? ⟨g1, 3, none⟩ = some (.int .i64 a0_3) := (blk_cell BKg1.out 3).trans rfl; have hfa_g1_3 := blk_frozen BKg1.out 3))
    go_ret
    exact ⟨rfl, HB.out⟩
  by_cases c1 : a0_0 > 12
  · rw [if_neg (by rw [okP_iff]; omega)]
    go_enter Try.func19, Try.ntmps19
    go_wp2_with (((with_reducible refine gate_dst (N := 1) rfl ?_); refine box_event ?hg (N := 1) ?hd (cs := #[.int .i64 a0_0, .int .i64 a0_1, .int .i64 a0_2, .int .i64 a0_3]) (t := 24) ?hr ?_; (case hd => rfl); (case hg => rfl); (case hr => first | (go_simp; done) | (go_simp; rfl)); intro g1 hg w1 hbox hb; have n0_ := Aside0.mk (below_step (by repeat (first | (with_reducible first | exact HB.out | apply below_alloc | apply pw_below_drewN | apply below_drew1) | exact HB.out)) hb); have n1_ := Aside0.mk (hbox); have n2_ := Aside0.mk ((by rw [hg]; exact (below_size (by repeat (first | (with_reducible first | exact HB.out | apply below_alloc | apply pw_below_drewN | apply below_drew1) | exact HB.out)))) : w.heap.size ≤ g1); clear HB; have HB := n0_; have BKg1 := n1_; have GEg1 := n2_; clear n0_ n1_ n2_; clear hb hbox hg; have hca_g1_0 : w1.cell? ⟨g1, 0, none⟩ = some (.int .i64 a0_0) := (blk_cell BKg1.out 0).trans rfl; have hfa_g1_0 := blk_frozen BKg1.out 0; have hca_g1_1 : w1.cell? ⟨g1, 1, none⟩ = some (.int .i64 a0_1) := (blk_cell BKg1.out 1).trans rfl; have hfa_g1_1 := blk_frozen BKg1.out 1; have hca_g1_2 : w1.cell? ⟨g1, 2, none⟩ = some (.int .i64 a0_2) := (blk_cell BKg1.out 2).trans rfl; have hfa_g1_2 := blk_frozen BKg1.out 2; have hca_g1_3 : w1.cell? ⟨g1, 3, none⟩ = some (.int .i64 a0_3) := (blk_cell BKg1.out 3).trans rfl; have hfa_g1_3 := blk_frozen BKg1.out 3))
    go_ret
    exact ⟨rfl, HB.out⟩
  by_cases c2 : a0_1 < 0
  · rw [if_neg (by rw [okP_iff]; omega)]
    go_enter Try.func19, Try.ntmps19
    go_wp2_with (((with_reducible refine gate_dst (N := 1) rfl ?_); refine box_event ?hg (N := 1) ?hd (cs := #[.int .i64 a0_0, .int .i64 a0_1, .int .i64 a0_2, .int .i64 a0_3]) (t := 24) ?hr ?_; (case hd => rfl); (case hg => rfl); (case hr => first | (go_simp; done) | (go_simp; rfl)); intro g1 hg w1 hbox hb; have n0_ := Aside0.mk (below_step (by repeat (first | (with_reducible first | exact HB.out | apply below_alloc | apply pw_below_drewN | apply below_drew1) | exact HB.out)) hb); have n1_ := Aside0.mk (hbox); have n2_ := Aside0.mk ((by rw [hg]; exact (below_size (by repeat (first | (with_reducible first | exact HB.out | apply below_alloc | apply pw_below_drewN | apply below_drew1) | exact HB.out)))) : w.heap.size ≤ g1); clear HB; have HB := n0_; have BKg1 := n1_; have GEg1 := n2_; clear n0_ n1_ n2_; clear hb hbox hg; have hca_g1_0 : w1.cell? ⟨g1, 0, none⟩ = some (.int .i64 a0_0) := (blk_cell BKg1.out 0).trans rfl; have hfa_g1_0 := blk_frozen BKg1.out 0; have hca_g1_1 : w1.cell? ⟨g1, 1, none⟩ = some (.int .i64 a0_1) := (blk_cell BKg1.out 1).trans rfl; have hfa_g1_1 := blk_frozen BKg1.out 1; have hca_g1_2 : w1.cell? ⟨g1, 2, none⟩ = some (.int .i64 a0_2) := (blk_cell BKg1.out 2).trans rfl; have hfa_g1_2 := blk_frozen BKg1.out 2; have hca_g1_3 : w1.cell? ⟨g1, 3, none⟩ = some (.int .i64 a0_3) := (blk_cell BKg1.out 3).trans rfl; have hfa_g1_3 := blk_frozen BKg1.out 3))
    go_ret
    exact ⟨rfl, HB.out⟩
  by_cases c3 : a0_1 > 4
  · rw [if_neg (by rw [okP_iff]; omega)]
    go_enter Try.func19, Try.ntmps19
    go_wp2_with (((with_reducible refine gate_dst (N := 1) rfl ?_); refine box_event ?hg (N := 1) ?hd (cs := #[.int .i64 a0_0, .int .i64 a0_1, .int .i64 a0_2, .int .i64 a0_3]) (t := 24) ?hr ?_; (case hd => rfl); (case hg => rfl); (case hr => first | (go_simp; done) | (go_simp; rfl)); intro g1 hg w1 hbox hb; have n0_ := Aside0.mk (below_step (by repeat (first | (with_reducible first | exact HB.out | apply below_alloc | apply pw_below_drewN | apply below_drew1) | exact HB.out)) hb); have n1_ := Aside0.mk (hbox); have n2_ := Aside0.mk ((by rw [hg]; exact (below_size (by repeat (first | (with_reducible first | exact HB.out | apply below_alloc | apply pw_below_drewN | apply below_drew1) | exact HB.out)))) : w.heap.size ≤ g1); clear HB; have HB := n0_; have BKg1 := n1_; have GEg1 := n2_; clear n0_ n1_ n2_; clear hb hbox hg; have hca_g1_0 : w1.cell? ⟨g1, 0, none⟩ = some (.int .i64 a0_0) := (blk_cell BKg1.out 0).trans rfl; have hfa_g1_0 := blk_frozen BKg1.out 0; have hca_g1_1 : w1.cell? ⟨g1, 1, none⟩ = some (.int .i64 a0_1) := (blk_cell BKg1.out 1).trans rfl; have hfa_g1_1 := blk_frozen BKg1.out 1; have hca_g1_2 : w1.cell? ⟨g1, 2, none⟩ = some (.int .i64 a0_2) := (blk_cell BKg1.out 2).trans rfl; have hfa_g1_2 := blk_frozen BKg1.out 2; have hca_g1_3 : w1.cell? ⟨g1, 3, none⟩ = some (.int .i64 a0_3) := (blk_cell BKg1.out 3).trans rfl; have hfa_g1_3 := blk_frozen BKg1.out 3))
    go_ret
    exact ⟨rfl, HB.out⟩
  by_cases c4 : a0_2 < 8
  · rw [if_neg (by rw [okP_iff]; omega)]
    go_enter Try.func19, Try.ntmps19
    go_wp2_with (((with_reducible refine gate_dst (N := 1) rfl ?_); refine box_event ?hg (N := 1) ?hd (cs := #[.int .i64 a0_0, .int .i64 a0_1, .int .i64 a0_2, .int .i64 a0_3]) (t := 24) ?hr ?_; (case hd => rfl); (case hg => rfl); (case hr => first | (go_simp; done) | (go_simp; rfl)); intro g1 hg w1 hbox hb; have n0_ := Aside0.mk (below_step (by repeat (first | (with_reducible first | exact HB.out | apply below_alloc | apply pw_below_drewN | apply below_drew1) | exact HB.out)) hb); have n1_ := Aside0.mk (hbox); have n2_ := Aside0.mk ((by rw [hg]; exact (below_size (by repeat (first | (with_reducible first | exact HB.out | apply below_alloc | apply pw_below_drewN | apply below_drew1) | exact HB.out)))) : w.heap.size ≤ g1); clear HB; have HB := n0_; have BKg1 := n1_; have GEg1 := n2_; clear n0_ n1_ n2_; clear hb hbox hg; have hca_g1_0 : w1.cell? ⟨g1, 0, none⟩ = some (.int .i64 a0_0) := (blk_cell BKg1.out 0).trans rfl; have hfa_g1_0 := blk_frozen BKg1.out 0; have hca_g1_1 : w1.cell? ⟨g1, 1, none⟩ = some (.int .i64 a0_1) := (blk_cell BKg1.out 1).trans rfl; have hfa_g1_1 := blk_frozen BKg1.out 1; have hca_g1_2 : w1.cell? ⟨g1, 2, none⟩ = some (.int .i64 a0_2) := (blk_cell BKg1.out 2).trans rfl; have hfa_g1_2 := blk_frozen BKg1.out 2; have hca_g1_3 : w1.cell? ⟨g1, 3, none⟩ = some (.int .i64 a0_3) := (blk_cell BKg1.out 3).trans rfl; have hfa_g1_3 := blk_frozen BKg1.out 3))
    go_ret
    exact ⟨rfl, HB.out⟩
  by_cases c5 : a0_2 > 64
  · rw [if_neg (by rw [okP_iff]; omega)]
    go_enter Try.func19, Try.ntmps19
    go_wp2_with (((with_reducible refine gate_dst (N := 1) rfl ?_); refine box_event ?hg (N := 1) ?hd (cs := #[.int .i64 a0_0, .int .i64 a0_1, .int .i64 a0_2, .int .i64 a0_3]) (t := 24) ?hr ?_; (case hd => rfl); (case hg => rfl); (case hr => first | (go_simp; done) | (go_simp; rfl)); intro g1 hg w1 hbox hb; have n0_ := Aside0.mk (below_step (by repeat (first | (with_reducible first | exact HB.out | apply below_alloc | apply pw_below_drewN | apply below_drew1) | exact HB.out)) hb); have n1_ := Aside0.mk (hbox); have n2_ := Aside0.mk ((by rw [hg]; exact (below_size (by repeat (first | (with_reducible first | exact HB.out | apply below_alloc | apply pw_below_drewN | apply below_drew1) | exact HB.out)))) : w.heap.size ≤ g1); clear HB; have HB := n0_; have BKg1 := n1_; have GEg1 := n2_; clear n0_ n1_ n2_; clear hb hbox hg; have hca_g1_0 : w1.cell? ⟨g1, 0, none⟩ = some (.int .i64 a0_0) := (blk_cell BKg1.out 0).trans rfl; have hfa_g1_0 := blk_frozen BKg1.out 0; have hca_g1_1 : w1.cell? ⟨g1, 1, none⟩ = some (.int .i64 a0_1) := (blk_cell BKg1.out 1).trans rfl; have hfa_g1_1 := blk_frozen BKg1.out 1; have hca_g1_2 : w1.cell? ⟨g1, 2, none⟩ = some (.int .i64 a0_2) := (blk_cell BKg1.out 2).trans rfl; have hfa_g1_2 := blk_frozen BKg1.out 2; have hca_g1_3 : w1.cell? ⟨g1, 3, none⟩ = some (.int .i64 a0_3) := (blk_cell BKg1.out 3).trans rfl; have hfa_g1_3 := blk_frozen BKg1.out 3))
    go_ret
    exact ⟨rfl, HB.out⟩
  by_cases c6 : a0_3 < 8
  · rw [if_neg (by rw [okP_iff]; omega)]
    go_enter Try.func19, Try.ntmps19
    go_wp2_with (((with_reducible refine gate_dst (N := 1) rfl ?_); refine box_event ?hg (N := 1) ?hd (cs := #[.int .i64 a0_0, .int .i64 a0_1, .int .i64 a0_2, .int .i64 a0_3]) (t := 24) ?hr ?_; (case hd => rfl); (case hg => rfl); (case hr => first | (go_simp; done) | (go_simp; rfl)); intro g1 hg w1 hbox hb; have n0_ := Aside0.mk (below_step (by repeat (first | (with_reducible first | exact HB.out | apply below_alloc | apply pw_below_drewN | apply below_drew1) | exact HB.out)) hb); have n1_ := Aside0.mk (hbox); have n2_ := Aside0.mk ((by rw [hg]; exact (below_size (by repeat (first | (with_reducible first | exact HB.out | apply below_alloc | apply pw_below_drewN | apply below_drew1) | exact HB.out)))) : w.heap.size ≤ g1); clear HB; have HB := n0_; have BKg1 := n1_; have GEg1 := n2_; clear n0_ n1_ n2_; clear hb hbox hg; have hca_g1_0 : w1.cell? ⟨g1, 0, none⟩ = some (.int .i64 a0_0) := (blk_cell BKg1.out 0).trans rfl; have hfa_g1_0 := blk_frozen BKg1.out 0; have hca_g1_1 : w1.cell? ⟨g1, 1, none⟩ = some (.int .i64 a0_1) := (blk_cell BKg1.out 1).trans rfl; have hfa_g1_1 := blk_frozen BKg1.out 1; have hca_g1_2 : w1.cell? ⟨g1, 2, none⟩ = some (.int .i64 a0_2) := (blk_cell BKg1.out 2).trans rfl; have hfa_g1_2 := blk_frozen BKg1.out 2; have hca_g1_3 : w1.cell? ⟨g1, 3, none⟩ = some (.int .i64 a0_3) := (blk_cell BKg1.out 3).trans rfl; have hfa_g1_3 := blk_frozen BKg1.out 3))
    go_ret
    exact ⟨rfl, HB.out⟩
  by_cases c7 : a0_3 > 256
  · rw [if_neg (by rw [okP_iff]; omega)]
    go_enter Try.func19, Try.ntmps19
    go_wp2_with (((with_reducible refine gate_dst (N := 1) rfl ?_); refine box_event ?hg (N := 1) ?hd (cs := #[.int .i64 a0_0, .int .i64 a0_1, .int .i64 a0_2, .int .i64 a0_3]) (t := 24) ?hr ?_; (case hd => rfl); (case hg => rfl); (case hr => first | (go_simp; done) | (go_simp; rfl)); intro g1 hg w1 hbox hb; have n0_ := Aside0.mk (below_step (by repeat (first | (with_reducible first | exact HB.out | apply below_alloc | apply pw_below_drewN | apply below_drew1) | exact HB.out)) hb); have n1_ := Aside0.mk (hbox); have n2_ := Aside0.mk ((by rw [hg]; exact (below_size (by repeat (first | (with_reducible first | exact HB.out | apply below_alloc | apply pw_below_drewN | apply below_drew1) | exact HB.out)))) : w.heap.size ≤ g1); clear HB; have HB := n0_; have BKg1 := n1_; have GEg1 := n2_; clear n0_ n1_ n2_; clear hb hbox hg; have hca_g1_0 : w1.cell? ⟨g1, 0, none⟩ = some (.int .i64 a0_0) := (blk_cell BKg1.out 0).trans rfl; have hfa_g1_0 := blk_frozen BKg1.out 0; have hca_g1_1 : w1.cell? ⟨g1, 1, none⟩ = some (.int .i64 a0_1) := (blk_cell BKg1.out 1).trans rfl; have hfa_g1_1 := blk_frozen BKg1.out 1; have hca_g1_2 : w1.cell? ⟨g1, 2, none⟩ = some (.int .i64 a0_2) := (blk_cell BKg1.out 2).trans rfl; have hfa_g1_2 := blk_frozen BKg1.out 2; have hca_g1_3 : w1.cell? ⟨g1, 3, none⟩ = some (.int .i64 a0_3) := (blk_cell BKg1.out 3).trans rfl; have hfa_g1_3 := blk_frozen BKg1.out 3))
    go_ret
    exact ⟨rfl, HB.out⟩
  obtain ⟨ml, mr⟩ := mul_small (show 1 ≤ a0_0 by omega) (show a0_0 ≤ 12 by omega) (show 8 ≤ a0_2 by omega) (show a0_2 ≤ 64 by omega)
  by_cases cm : a0_0 * a0_2 < 32
  · rw [if_neg (by rw [okP_iff]; omega)]
    go_enter Try.func19, Try.ntmps19
    go_wp2_with (((with_reducible refine gate_dst (N := 1) rfl ?_); refine box_event ?hg (N := 1) ?hd (cs := #[.int .i64 a0_0, .int .i64 a0_1, .int .i64 a0_2, .int .i64 a0_3]) (t := 24) ?hr ?_; (case hd => rfl); (case hg => rfl); (case hr => first | (go_simp; done) | (go_simp; rfl)); intro g1 hg w1 hbox hb; have n0_ := Aside0.mk (below_step (by repeat (first | (with_reducible first | exact HB.out | apply below_alloc | apply pw_below_drewN | apply below_drew1) | exact HB.out)) hb); have n1_ := Aside0.mk (hbox); have n2_ := Aside0.mk ((by rw [hg]; exact (below_size (by repeat (first | (with_reducible first | exact HB.out | apply below_alloc | apply pw_below_drewN | apply below_drew1) | exact HB.out)))) : w.heap.size ≤ g1); clear HB; have HB := n0_; have BKg1 := n1_; have GEg1 := n2_; clear n0_ n1_ n2_; clear hb hbox hg; have hca_g1_0 : w1.cell? ⟨g1, 0, none⟩ = some (.int .i64 a0_0) := (blk_cell BKg1.out 0).trans rfl; have hfa_g1_0 := blk_frozen BKg1.out 0; have hca_g1_1 : w1.cell? ⟨g1, 1, none⟩ = some (.int .i64 a0_1) := (blk_cell BKg1.out 1).trans rfl; have hfa_g1_1 := blk_frozen BKg1.out 1; have hca_g1_2 : w1.cell? ⟨g1, 2, none⟩ = some (.int .i64 a0_2) := (blk_cell BKg1.out 2).trans rfl; have hfa_g1_2 := blk_frozen BKg1.out 2; have hca_g1_3 : w1.cell? ⟨g1, 3, none⟩ = some (.int .i64 a0_3) := (blk_cell BKg1.out 3).trans rfl; have hfa_g1_3 := blk_frozen BKg1.out 3))
    go_ret
    exact ⟨rfl, HB.out⟩
  · rw [if_pos (by rw [okP_iff]; omega)]
    go_enter Try.func19, Try.ntmps19
    go_wp2_with (((with_reducible refine gate_dst (N := 1) rfl ?_); refine box_event ?hg (N := 1) ?hd (cs := #[.int .i64 a0_0, .int .i64 a0_1, .int .i64 a0_2, .int .i64 a0_3]) (t := 24) ?hr ?_; (case hd => rfl); (case hg => rfl); (case hr => first | (go_simp; done) | (go_simp; rfl)); intro g1 hg w1 hbox hb; have n0_ := Aside0.mk (below_step (by repeat (first | (with_reducible first | exact HB.out | apply below_alloc | apply pw_below_drewN | apply below_drew1) | exact HB.out)) hb); have n1_ := Aside0.mk (hbox); have n2_ := Aside0.mk ((by rw [hg]; exact (below_size (by repeat (first | (with_reducible first | exact HB.out | apply below_alloc | apply pw_below_drewN | apply below_drew1) | exact HB.out)))) : w.heap.size ≤ g1); clear HB; have HB := n0_; have BKg1 := n1_; have GEg1 := n2_; clear n0_ n1_ n2_; clear hb hbox hg; have hca_g1_0 : w1.cell? ⟨g1, 0, none⟩ = some (.int .i64 a0_0) := (blk_cell BKg1.out 0).trans rfl; have hfa_g1_0 := blk_frozen BKg1.out 0; have hca_g1_1 : w1.cell? ⟨g1, 1, none⟩ = some (.int .i64 a0_1) := (blk_cell BKg1.out 1).trans rfl; have hfa_g1_1 := blk_frozen BKg1.out 1; have hca_g1_2 : w1.cell? ⟨g1, 2, none⟩ = some (.int .i64 a0_2) := (blk_cell BKg1.out 2).trans rfl; have hfa_g1_2 := blk_frozen BKg1.out 2; have hca_g1_3 : w1.cell? ⟨g1, 3, none⟩ = some (.int .i64 a0_3) := (blk_cell BKg1.out 3).trans rfl; have hfa_g1_3 := blk_frozen BKg1.out 3))
    go_ret
    exact ⟨rfl, HB.out⟩
def mostOf (W : Int) : Int := min ((W - 7) / 6 * (W / 6) * W) 32768
theorem mostOf_small {W : Int} (h1 : 8 ≤ W) (h2 : W ≤ 768) : 0 ≤ (W - 7) / 6 * (W / 6) ∧ (W - 7) / 6 * (W / 6) ≤ 20000 ∧ 0 ≤ (W - 7) / 6 * (W / 6) * W ∧ (W - 7) / 6 * (W / 6) * W ≤ 20000000 := by
  have a1 : 0 ≤ (W - 7) / 6 := by omega
  have a2 : (W - 7) / 6 ≤ 127 := by omega
  have b1 : 0 ≤ W / 6 := by omega
  have b2 : W / 6 ≤ 128 := by omega
  have c1 : 0 ≤ (W - 7) / 6 * (W / 6) := Int.mul_nonneg a1 b1
  have c2 : (W - 7) / 6 * (W / 6) ≤ 127 * 128 := Int.mul_le_mul a2 b2 b1 (by omega)
  have d2 : (W - 7) / 6 * (W / 6) * W ≤ (127 * 128) * 768 := Int.mul_le_mul c2 h2 (by omega) (by omega)
  exact ⟨c1, by omega, Int.mul_nonneg c1 (by omega), by omega⟩

/-! ### rows_Free: function 9 (by hand) -/
open Go.Maps (int_keyed keyOf_int_mk)
theorem wf_small {x : Int} (h0 : 0 ≤ x) (h1 : x < 1000) : (Lit.int .i64 x).wf = true := by
  have h := wrap64_wf x
  rwa [show wrap64 x = x by unfold wrap64; omega] at h
/-- Block B is a map of ints that reads as f. -/
def MapI (w : World) (B n : Nat) (f : Int → Int) : Prop := ∃ D : DataW Unit, w.ownsMap Try.prog 3 (plainElem Try.prog 3) B n D ∧ ∀ x : Int, D.atKey (.int .i64 x) (.lit (.int .i64 0)) = .lit (.int .i64 (f x))
theorem MapI.made (w : World) : MapI (w.alloc (.map #[] 0)) w.heap.size 0 (fun _ => 0) := ⟨.map [], World.ownsMap_made _ _ _ _, fun _ => rfl⟩
theorem MapI.lt {w : World} {B n : Nat} {f : Int → Int} (h : MapI w B n f) : B < w.heap.size := by
  obtain ⟨D, h, _⟩ := h
  exact h.lt
theorem MapI.as {w : World} {B n n' : Nat} {f g : Int → Int} (h : MapI w B n f) (hn : n ≤ n') (e : ∀ x, f x = g x) : MapI w B n' g := by
  obtain ⟨D, h, ha⟩ := h
  exact ⟨D, h.mono hn, fun x => by rw [ha, e]⟩
theorem MapI.grown {w w' : World} {B n : Nat} {f : Int → Int} {row : Option Nat} (h : MapI w B n f) (hg : w.grownBy w' row) (hne : some B ≠ row) : MapI w' B n f := by
  obtain ⟨D, h, ha⟩ := h
  exact ⟨D, h.kept hg hne, ha⟩
theorem isKey {x : Int} (hw : (Lit.int .i64 x).wf = true) : WideAt.IsKeyLit (.int .i64 x) := (int_keyed (P := Try.prog) (k := 3) Try.underlying3).key (keyOf_int_mk Try.underlying3 hw)
theorem MapI.put {w w' : World} {B n : Nat} {f : Int → Int} {D : DataW Unit} {x v : Int} (hm : Go.Maps.IsMap D) (ha : ∀ y : Int, D.atKey (.int .i64 y) (.lit (.int .i64 0)) = .lit (.int .i64 (f y))) (hw : (Lit.int .i64 x).wf = true)
    (h : w'.ownsMap Try.prog 3 (plainElem Try.prog 3) B n (D.put (.int .i64 x) (.lit (.int .i64 v)))) : MapI w' B n (fun y => if y = x then v else f y) := by
  refine ⟨_, h, fun y => ?_⟩
  show _ = DataW.lit (.int .i64 (if y = x then v else f y))
  by_cases hy : y = x
  · subst hy
    rw [if_pos rfl, Go.Maps.atKey_put_same hm (isKey hw)]
  · rw [if_neg hy, Go.Maps.atKey_put_other (fun e => hy (by injection e)), ha]
theorem MapI.del {w' : World} {B n : Nat} {f : Int → Int} {D : DataW Unit} {x : Int} (ha : ∀ y : Int, D.atKey (.int .i64 y) (.lit (.int .i64 0)) = .lit (.int .i64 (f y)))
    (h : w'.ownsMap Try.prog 3 (plainElem Try.prog 3) B n (D.del (.int .i64 x))) : MapI w' B n (fun y => if y = x then 0 else f y) := by
  refine ⟨_, h, fun y => ?_⟩
  show _ = DataW.lit (.int .i64 (if y = x then 0 else f y))
  by_cases hy : y = x
  · subst hy
    rw [if_pos rfl, Go.Maps.atKey_del_same]
  · rw [if_neg hy, Go.Maps.atKey_del_other (fun e => hy (by injection e)), ha]
theorem zero3 (w : World) : (zeroValue 3).run Try.prog w = .ok (.int .i64 0) w := by kernel_rfl
theorem int_elem {w : World} {A : Option Addr} {l : List Int} (h : Kd.C (Kd.int .i64) w A l.length l) (k : Nat) (hk : k < l.length) :
    ∃ (ad : Addr) (x : Int), A = some ad ∧ l.take (k + 1) = l.take k ++ [x] ∧ x ∈ l ∧ w.cell? (ad.add k) = some (.int .i64 x) := by
  obtain ⟨ad, cs, e, hl, hK, hc⟩ := Kd.C_get h 0 (k : Int) (by omega) (by omega)
  have e1 : l.getD ((k : Int).toNat) 0 = l[k] := by simp [hk]
  rw [e1] at hK
  refine ⟨ad, l[k], e, List.take_succ_eq_append_getElem hk, List.getElem_mem hk, ?_⟩
  obtain rfl : cs = [.int .i64 l[k]] := hK
  have := hc 0 _ rfl
  simpa [show (Kd.int .i64).sz = 1 from rfl] using this
/-- Those of the first k numbers that are not in l. -/
def freeOf (k : Nat) (l : List Int) : List Int := ((List.range k).filter fun i : Nat => !l.contains (i : Int)).map fun i : Nat => (i : Int)
theorem freeOf_in {k : Nat} {l : List Int} (h : (k : Int) ∈ l) : freeOf (k + 1) l = freeOf k l := by simp [freeOf, List.range_succ, h]
theorem freeOf_out {k : Nat} {l : List Int} (h : ¬ (k : Int) ∈ l) : freeOf (k + 1) l = freeOf k l ++ [(k : Int)] := by simp [freeOf, List.range_succ, h]
theorem freeOf_len (k : Nat) (l : List Int) : (freeOf k l).length ≤ k := by
  unfold freeOf
  rw [List.length_map]
  exact Nat.le_trans (List.length_filter_le _ _) (by simp)
def M2 (d : Int) (l : List Int) (x : Int) : Int := if 0 ≤ x ∧ x < d ∧ ¬ x ∈ l then 1 else 0
theorem M2_step (d : Int) (l : List Int) (x y : Int) : (if y = x then 0 else M2 d l y) = M2 d (l ++ [x]) y := by
  unfold M2
  by_cases h : y = x <;> simp [h]
theorem M2_start (d y : Int) (k : Nat) (h : d = k) : (if 0 ≤ y ∧ y < (k : Int) then (1 : Int) else 0) = M2 d [] y := by
  unfold M2
  subst h
  by_cases h1 : 0 ≤ y ∧ y < (k : Int)
  · rw [if_pos h1, if_pos ⟨h1.1, h1.2, by simp⟩]
  · rw [if_neg h1, if_neg (fun h => h1 ⟨h.1, h.2.1⟩)]
theorem M1_step (k : Nat) (y : Int) : (if y = (k : Int) then (1 : Int) else if 0 ≤ y ∧ y < (k : Int) then 1 else 0) = if 0 ≤ y ∧ y < ((k + 1 : Nat) : Int) then 1 else 0 := by
  by_cases h : y = (k : Int)
  · subst h
    rw [if_pos rfl, if_pos ⟨by omega, by omega⟩]
  · rw [if_neg h]
    by_cases h1 : 0 ≤ y ∧ y < (k : Int)
    · rw [if_pos h1, if_pos ⟨by omega, by omega⟩]
    · rw [if_neg h1, if_neg (by omega)]
theorem M2_one {d : Int} {l : List Int} {x : Int} (h0 : 0 ≤ x) (h1 : x < d) : (x ∈ l → M2 d l x = 0) ∧ (¬ x ∈ l → M2 d l x = 1) :=
  ⟨fun h => if_neg (fun hh => hh.2.2 h), fun h => if_pos ⟨h0, h1, h⟩⟩
def inAll (d : Int) (l : List Int) : Bool := l.all fun x => decide (0 ≤ x) && decide (x < d)
theorem inAll_end {d : Int} {l : List Int} {x : Int} (h : inAll d l = true) (h0 : 0 ≤ x) (h1 : x < d) : inAll d (l ++ [x]) = true := by
  unfold inAll at *
  rw [List.all_append, h]
  simp [h0, h1]
theorem inAll_not {d : Int} {l : List Int} {x : Int} (h : x ∈ l) (hx : x < 0 ∨ d ≤ x) : inAll d l = false := by
  by_cases hh : inAll d l = true
  · unfold inAll at hh
    have := List.all_eq_true.mp hh x h
    simp at this
    omega
  · simpa using hh
def rows_Free.f (a0_0 a0_1 a0_2 a0_3 : Int) (l1 : List Int) : Option (List Int × Int) := some (if okP a0_0 a0_1 a0_2 a0_3 = true then (if 65536 < l1.length then ([], 20) else if inAll a0_3 l1 = true then (freeOf a0_3.toNat l1, 0) else ([], 200)) else ([], 2))
set_option maxHeartbeats 8000000 in
set_option maxRecDepth 100000 in
theorem free_bad (a b c d : Int) (A1 : Option Addr) (c1 : Nat) (l1 : List Int) (w : World) (hk : layout_Check.f a b c d = some 2) :
    Calls Try.prog 9 #[.agg #[.int .i64 a, .int .i64 b, .int .i64 c, .int .i64 d], .slice A1 l1.length c1] w fun e w' => ∃ v0_ : Value, e = .returned (.tuple #[v0_, .int .i64 2]) ∧ Kd.R (Kd.int .i64) 3 w' w.heap.size (fun _ => True) v0_ [] ∧ Below w.heap.size w w' := by
  have hu24 := Try.underlying24
  have HB := Aside0.mk (Below.refl w.heap.size w)
  have HK := Aside0.mk hk
  clear hk
  go_enter Try.func9, Try.ntmps9
  have tok1 : True := trivial
  go_wp2_with (first | (have _ := tok1; (with_reducible refine gate_dst (N := 2) rfl ?_); refine box_event ?hg (N := 2) ?hd (cs := #[.int .i64 a, .int .i64 b, .int .i64 c, .int .i64 d]) (t := 24) ?hr ?_; (case hd => rfl); (case hg => rfl); (case hr => first | (go_simp; done) | (go_simp; rfl)); intro g2 hg w1 hbox hb; have hs : Below w.heap.size w w1 := below_step (by repeat (first | exact Below.refl _ _ | apply below_alloc | apply pw_below_drewN | apply below_drew1)) hb; have SZ1 := Aside0.mk (show w.heap.size ≤ g2 ∧ g2 < w1.heap.size from ⟨by rw [hg]; exact (below_size (by repeat (first | exact Below.refl _ _ | apply below_alloc | apply pw_below_drewN | apply below_drew1))), blk_lt hbox⟩); have n_ := Aside0.mk (below_step HB.out hs); clear HB; have HB := n_; clear n_; have BKg2 := Aside0.mk hbox; clear hb hbox hg hs; have hcg2_0 : w1.cell? ⟨g2, 0, none⟩ = some (.int .i64 a) := (blk_cell BKg2.out 0).trans rfl; have hfg2_0 := blk_frozen BKg2.out 0; have hcg2_1 : w1.cell? ⟨g2, 1, none⟩ = some (.int .i64 b) := (blk_cell BKg2.out 1).trans rfl; have hfg2_1 := blk_frozen BKg2.out 1; have hcg2_2 : w1.cell? ⟨g2, 2, none⟩ = some (.int .i64 c) := (blk_cell BKg2.out 2).trans rfl; have hfg2_2 := blk_frozen BKg2.out 2; have hcg2_3 : w1.cell? ⟨g2, 3, none⟩ = some (.int .i64 d) := (blk_cell BKg2.out 3).trans rfl; have hfg2_3 := blk_frozen BKg2.out 3; clear tok1; have tok2 : True := trivial) | (have _ := tok2; go_at_call 19; (with_reducible refine (layout_Check.calls a b c d 2 _ HK.out).mono ?_); rintro e w2 ⟨rfl, hb⟩; (try clear hcg2_0 hfg2_0); (try clear hcg2_1 hfg2_1); (try clear hcg2_2 hfg2_2); (try clear hcg2_3 hfg2_3); have hs : Below w1.heap.size w1 w2 := below_step (by repeat (first | exact Below.refl _ _ | apply below_alloc | apply pw_below_drewN | apply below_drew1)) hb; have hl : w1.heap.size ≤ _ := below_size (w := w1) (by repeat (first | exact Below.refl _ _ | apply below_alloc | apply pw_below_drewN | apply below_drew1)); have SZ2 := Aside0.mk (show w1.heap.size ≤ w2.heap.size from hs.size); have n_ := Aside0.mk (blk_below BKg2.out hs); clear BKg2; have BKg2 := n_; clear n_; have n_ := Aside0.mk (below_step HB.out hs); clear HB; have HB := n_; clear n_; clear hb hs; (try clear hl); have hcg2_0 : w2.cell? ⟨g2, 0, none⟩ = some (.int .i64 a) := (blk_cell BKg2.out 0).trans rfl; have hfg2_0 := blk_frozen BKg2.out 0; have hcg2_1 : w2.cell? ⟨g2, 1, none⟩ = some (.int .i64 b) := (blk_cell BKg2.out 1).trans rfl; have hfg2_1 := blk_frozen BKg2.out 1; have hcg2_2 : w2.cell? ⟨g2, 2, none⟩ = some (.int .i64 c) := (blk_cell BKg2.out 2).trans rfl; have hfg2_2 := blk_frozen BKg2.out 2; have hcg2_3 : w2.cell? ⟨g2, 3, none⟩ = some (.int .i64 d) := (blk_cell BKg2.out 3).trans rfl; have hfg2_3 := blk_frozen BKg2.out 3; clear tok2))
  go_ret2
  exact ⟨_, rfl, Kd.R_nil _ _ _ _ _, HB.out⟩
set_option maxHeartbeats 8000000 in
set_option maxRecDepth 100000 in
theorem free_long (a b c d : Int) (A1 : Option Addr) (c1 : Nat) (l1 : List Int) (w : World) (hk : layout_Check.f a b c d = some 0) (h6 : 65536 < l1.length) :
    Calls Try.prog 9 #[.agg #[.int .i64 a, .int .i64 b, .int .i64 c, .int .i64 d], .slice A1 l1.length c1] w fun e w' => ∃ v0_ : Value, e = .returned (.tuple #[v0_, .int .i64 20]) ∧ Kd.R (Kd.int .i64) 3 w' w.heap.size (fun _ => True) v0_ [] ∧ Below w.heap.size w w' := by
  have hu24 := Try.underlying24
  have HB := Aside0.mk (Below.refl w.heap.size w)
  have HK := Aside0.mk hk
  have b1 : decide ((65536 : Int) < (l1.length : Int)) = true := decide_eq_true (by omega)
  have b2 : decide (65536 < l1.length) = true := decide_eq_true h6
  clear hk h6
  go_enter Try.func9, Try.ntmps9
  have tok1 : True := trivial
  go_wp2_with (first | (have _ := tok1; (with_reducible refine gate_dst (N := 2) rfl ?_); refine box_event ?hg (N := 2) ?hd (cs := #[.int .i64 a, .int .i64 b, .int .i64 c, .int .i64 d]) (t := 24) ?hr ?_; (case hd => rfl); (case hg => rfl); (case hr => first | (go_simp; done) | (go_simp; rfl)); intro g2 hg w1 hbox hb; have hs : Below w.heap.size w w1 := below_step (by repeat (first | exact Below.refl _ _ | apply below_alloc | apply pw_below_drewN | apply below_drew1)) hb; have SZ1 := Aside0.mk (show w.heap.size ≤ g2 ∧ g2 < w1.heap.size from ⟨by rw [hg]; exact (below_size (by repeat (first | exact Below.refl _ _ | apply below_alloc | apply pw_below_drewN | apply below_drew1))), blk_lt hbox⟩); have n_ := Aside0.mk (below_step HB.out hs); clear HB; have HB := n_; clear n_; have BKg2 := Aside0.mk hbox; clear hb hbox hg hs; have hcg2_0 : w1.cell? ⟨g2, 0, none⟩ = some (.int .i64 a) := (blk_cell BKg2.out 0).trans rfl; have hfg2_0 := blk_frozen BKg2.out 0; have hcg2_1 : w1.cell? ⟨g2, 1, none⟩ = some (.int .i64 b) := (blk_cell BKg2.out 1).trans rfl; have hfg2_1 := blk_frozen BKg2.out 1; have hcg2_2 : w1.cell? ⟨g2, 2, none⟩ = some (.int .i64 c) := (blk_cell BKg2.out 2).trans rfl; have hfg2_2 := blk_frozen BKg2.out 2; have hcg2_3 : w1.cell? ⟨g2, 3, none⟩ = some (.int .i64 d) := (blk_cell BKg2.out 3).trans rfl; have hfg2_3 := blk_frozen BKg2.out 3; clear tok1; have tok2 : True := trivial) | (have _ := tok2; go_at_call 19; (with_reducible refine (layout_Check.calls a b c d 0 _ HK.out).mono ?_); rintro e w2 ⟨rfl, hb⟩; (try clear hcg2_0 hfg2_0); (try clear hcg2_1 hfg2_1); (try clear hcg2_2 hfg2_2); (try clear hcg2_3 hfg2_3); have hs : Below w1.heap.size w1 w2 := below_step (by repeat (first | exact Below.refl _ _ | apply below_alloc | apply pw_below_drewN | apply below_drew1)) hb; have hl : w1.heap.size ≤ _ := below_size (w := w1) (by repeat (first | exact Below.refl _ _ | apply below_alloc | apply pw_below_drewN | apply below_drew1)); have SZ2 := Aside0.mk (show w1.heap.size ≤ w2.heap.size from hs.size); have n_ := Aside0.mk (blk_below BKg2.out hs); clear BKg2; have BKg2 := n_; clear n_; have n_ := Aside0.mk (below_step HB.out hs); clear HB; have HB := n_; clear n_; clear hb hs; (try clear hl); have hcg2_0 : w2.cell? ⟨g2, 0, none⟩ = some (.int .i64 a) := (blk_cell BKg2.out 0).trans rfl; have hfg2_0 := blk_frozen BKg2.out 0; have hcg2_1 : w2.cell? ⟨g2, 1, none⟩ = some (.int .i64 b) := (blk_cell BKg2.out 1).trans rfl; have hfg2_1 := blk_frozen BKg2.out 1; have hcg2_2 : w2.cell? ⟨g2, 2, none⟩ = some (.int .i64 c) := (blk_cell BKg2.out 2).trans rfl; have hfg2_2 := blk_frozen BKg2.out 2; have hcg2_3 : w2.cell? ⟨g2, 3, none⟩ = some (.int .i64 d) := (blk_cell BKg2.out 3).trans rfl; have hfg2_3 := blk_frozen BKg2.out 3; clear tok2))
  go_ret2
  exact ⟨_, rfl, Kd.R_nil _ _ _ _ _, HB.out⟩
set_option maxHeartbeats 8000000 in
set_option maxRecDepth 100000 in
theorem free_main (a b c d : Int) (A1 : Option Addr) (c1 : Nat) (l1 : List Int) (w : World) (hk : layout_Check.f a b c d = some 0) (hr1 : Kd.C (Kd.int .i64) w A1 l1.length l1) (hd0 : 8 ≤ d) (hd1 : d ≤ 256) (h6 : ¬ 65536 < l1.length) (L : List Int) (E : Int) (hres : (inAll d l1 = true → L = freeOf d.toNat l1 ∧ E = 0) ∧ (inAll d l1 = false → L = [] ∧ E = 200)) :
    Calls Try.prog 9 #[.agg #[.int .i64 a, .int .i64 b, .int .i64 c, .int .i64 d], .slice A1 l1.length c1] w fun e w' => ∃ v0_ : Value, e = .returned (.tuple #[v0_, .int .i64 E]) ∧ Kd.R (Kd.int .i64) 3 w' w.heap.size (fun _ => True) v0_ L ∧ Below w.heap.size w w' := by
  have hu24 := Try.underlying24
  have HB := Aside0.mk (Below.refl w.heap.size w)
  have HK := Aside0.mk hk
  have b1 : decide ((65536 : Int) < (l1.length : Int)) = false := decide_eq_false (by omega)
  have b2 : decide (65536 < l1.length) = false := decide_eq_false h6
  have HR := Aside0.mk hr1
  have HL := Aside0.mk hres
  have HN := Aside0.mk h6
  have HD0 := Aside0.mk hd0
  have HD1 := Aside0.mk hd1
  obtain ⟨dn, hdn⟩ : ∃ n : Nat, d = n := ⟨d.toNat, by omega⟩
  have HDN := Aside0.mk hdn
  clear hres hk hr1 h6 hd0 hd1 hdn
  have hmm := @run_makeMap Try.prog
  go_enter Try.func9, Try.ntmps9
  have tok1 : True := trivial
  go_wp2_with (first | (have _ := tok1; (with_reducible refine gate_dst (N := 2) rfl ?_); refine box_event ?hg (N := 2) ?hd (cs := #[.int .i64 a, .int .i64 b, .int .i64 c, .int .i64 d]) (t := 24) ?hr ?_; (case hd => rfl); (case hg => rfl); (case hr => first | (go_simp; done) | (go_simp; rfl)); intro g2 hg w1 hbox hb; have hs : Below w.heap.size w w1 := below_step (by repeat (first | exact Below.refl _ _ | apply below_alloc | apply pw_below_drewN | apply below_drew1)) hb; have SZ1 := Aside0.mk (show w.heap.size ≤ g2 ∧ g2 < w1.heap.size from ⟨by rw [hg]; exact (below_size (by repeat (first | exact Below.refl _ _ | apply below_alloc | apply pw_below_drewN | apply below_drew1))), blk_lt hbox⟩); have n_ := Aside0.mk (below_step HB.out hs); clear HB; have HB := n_; clear n_; have BKg2 := Aside0.mk hbox; clear hb hbox hg hs; have hcg2_0 : w1.cell? ⟨g2, 0, none⟩ = some (.int .i64 a) := (blk_cell BKg2.out 0).trans rfl; have hfg2_0 := blk_frozen BKg2.out 0; have hcg2_1 : w1.cell? ⟨g2, 1, none⟩ = some (.int .i64 b) := (blk_cell BKg2.out 1).trans rfl; have hfg2_1 := blk_frozen BKg2.out 1; have hcg2_2 : w1.cell? ⟨g2, 2, none⟩ = some (.int .i64 c) := (blk_cell BKg2.out 2).trans rfl; have hfg2_2 := blk_frozen BKg2.out 2; have hcg2_3 : w1.cell? ⟨g2, 3, none⟩ = some (.int .i64 d) := (blk_cell BKg2.out 3).trans rfl; have hfg2_3 := blk_frozen BKg2.out 3; clear tok1; have tok2 : True := trivial) | (have _ := tok2; go_at_call 19; (with_reducible refine (layout_Check.calls a b c d 0 _ HK.out).mono ?_); rintro e w2 ⟨rfl, hb⟩; (try clear hcg2_0 hfg2_0); (try clear hcg2_1 hfg2_1); (try clear hcg2_2 hfg2_2); (try clear hcg2_3 hfg2_3); have hs : Below w1.heap.size w1 w2 := below_step (by repeat (first | exact Below.refl _ _ | apply below_alloc | apply pw_below_drewN | apply below_drew1)) hb; have hl : w1.heap.size ≤ _ := below_size (w := w1) (by repeat (first | exact Below.refl _ _ | apply below_alloc | apply pw_below_drewN | apply below_drew1)); have SZ2 := Aside0.mk (show w1.heap.size ≤ w2.heap.size from hs.size); have n_ := Aside0.mk (blk_below BKg2.out hs); clear BKg2; have BKg2 := n_; clear n_; have n_ := Aside0.mk (below_step HB.out hs); clear HB; have HB := n_; clear n_; have hcm : (w2.alloc (.map #[] 0)).cell? ⟨g2, 3, none⟩ = some (.int .i64 d) := (blk_cell (blk_alloc BKg2.out _) 3).trans rfl; have hfm := blk_frozen (blk_alloc BKg2.out (.map #[] 0)) 3; clear hb hs; (try clear hl); have hcg2_0 : w2.cell? ⟨g2, 0, none⟩ = some (.int .i64 a) := (blk_cell BKg2.out 0).trans rfl; have hfg2_0 := blk_frozen BKg2.out 0; have hcg2_1 : w2.cell? ⟨g2, 1, none⟩ = some (.int .i64 b) := (blk_cell BKg2.out 1).trans rfl; have hfg2_1 := blk_frozen BKg2.out 1; have hcg2_2 : w2.cell? ⟨g2, 2, none⟩ = some (.int .i64 c) := (blk_cell BKg2.out 2).trans rfl; have hfg2_2 := blk_frozen BKg2.out 2; have hcg2_3 : w2.cell? ⟨g2, 3, none⟩ = some (.int .i64 d) := (blk_cell BKg2.out 3).trans rfl; have hfg2_3 := blk_frozen BKg2.out 3; clear tok2))
  have HG := Aside0.mk (show g2 < w2.heap.size from blk_lt BKg2.out)
  have HW2 := Aside0.mk (show w.heap.size ≤ w2.heap.size from HB.out.size)
  go_loopg [24] dn (fun kq v24 wr => ∃ k : Nat, v24 = .int .i64 (k : Int) ∧ Aside0 (k ≤ dn ∧ dn - k ≤ kq) ∧ Aside0 (wr.heap[g2]? = some (.cells #[.int .i64 a, .int .i64 b, .int .i64 c, .int .i64 d] 24 (0, 0))) ∧ Aside0 (Below w.heap.size w wr) ∧ Aside0 (MapI wr w2.heap.size k (fun x => if 0 ≤ x ∧ x < (k : Int) then 1 else 0)))
  case atStart => exact ⟨0, rfl, Aside0.mk ⟨by omega, by omega⟩, Aside0.mk (blk_alloc BKg2.out _), Aside0.mk (below_alloc HB.out _), Aside0.mk ((MapI.made w2).as (Nat.le_refl _) (fun x => by rw [if_neg (by omega)]))⟩
  case round =>
    clear HB
    (try clear hcg2_0 hcg2_1 hcg2_2 hcg2_3 hfg2_0 hfg2_1 hfg2_2 hfg2_3)
    clear BKg2 hcm hfm
    obtain ⟨k, rfl, AX, BK, HB, HM⟩ := hrel
    by_cases hlt : (k : Int) < d
    · have c1 : decide ((k : Int) < d) = true := decide_eq_true hlt
      have HK1 := Aside0.mk hlt
      clear hlt
      go_wp2_with ((at_mapUpdate; obtain ⟨D, hown, hat⟩ := HM.out; have hwf := wf_small (x := (k : Int)) (by omega) (by have := HD1.out; have := HK1.out; omega); refine wpList_mapUpdate_own (H := Unit) _ rfl _ _ _ 40 rfl 3 3 (int_keyed Try.underlying3) Try.underlying40 _ _ k D rfl hown (by have := HD1.out; have := HK1.out; unfold maxLen; omega) _ _ _ rfl rfl (keyOf_int_mk Try.underlying3 hwf) _ [] (plainElem_int Try.underlying3 (wf_small (x := 1) (by decide) (by decide))) ?_; intro w5 hown1 hgr; have n0 := Aside0.mk (HB.out.grown hgr HB.out.size (fun j hj => (by cases hj; exact HW2.out))); have n1 := Aside0.mk (blk_grown BK.out hgr (fun e => (by injection e with e; have := HG.out; omega))); have n2 := Aside0.mk ((MapI.put (w := wr) hown.isMap hat hwf hown1).as (Nat.le_refl _) (M1_step k)); clear HB BK HM hown hat hown1 hgr hwf; have HB := n0; have BK := n1; have HM := n2; clear n0 n1 n2))
      go_roundg (gk - 1)
      case measure =>
        have := AX.out
        have := HK1.out
        have := HDN.out
        omega
      case rel =>
        have h1 := AX.out
        have h2 := HK1.out
        have h3 := HDN.out
        exact ⟨k + 1, by rw [show wrap64 ((k : Int) + 1) = ((k + 1 : Nat) : Int) by unfold wrap64; have := HD1.out; omega], Aside0.mk ⟨by omega, by omega⟩, BK, HB, HM⟩
    · have c1 : decide ((k : Int) < d) = false := decide_eq_false hlt
      have hk := AX.out
      have hdn := HDN.out
      have HM2 := Aside0.mk (HM.out.as (Nat.le_refl _) (fun y => M2_start d y k (by omega)))
      have HKD := Aside0.mk (show k ≤ dn from hk.1)
      clear hlt hk hdn HM
      go_wp2
      go_loopg [32] l1.length (fun kq v32 wr => ∃ k : Nat, v32 = .int .i64 (k : Int) ∧ Aside0 (k ≤ l1.length ∧ l1.length - k ≤ kq) ∧ Aside0 (wr.heap[g2]? = some (.cells #[.int .i64 a, .int .i64 b, .int .i64 c, .int .i64 d] 24 (0, 0))) ∧ Aside0 (Below w.heap.size w wr) ∧ Aside0 (MapI wr w2.heap.size dn (M2 d (l1.take k))) ∧ Aside0 (inAll d (l1.take k) = true))
      case atStart => exact ⟨0, rfl, Aside0.mk ⟨by omega, by omega⟩, BK, HB, Aside0.mk (HM2.out.as HKD.out (fun _ => rfl)), Aside0.mk rfl⟩
      case round =>
        clear HB BK HM2 AX c1
        obtain ⟨k, rfl, AX, BK, HB, HM, HI⟩ := hrel
        by_cases hlt : k < l1.length
        · obtain ⟨ad, x, eA, hf, hx, hcell⟩ := int_elem HR.out k hlt
          subst eA
          have b3 : decide ((k : Int) < (l1.length : Int)) = true := decide_eq_true (by omega)
          have b4 : decide (k < l1.length) = true := decide_eq_true hlt
          have b5 : (k < l1.length) = True := eq_true hlt
          have hx2 := pw_cell_below HB.out hcell
          have AF := Aside0.mk hf
          have AM := Aside0.mk hx
          have HK := Aside0.mk hlt
          clear hf hx hlt hcell
          have hc3 : wr.cell? ⟨g2, 3, none⟩ = some (.int .i64 d) := (blk_cell BK.out 3).trans rfl
          have hf3 := blk_frozen BK.out 3
          by_cases hx0 : x < 0
          · have c2 : decide (x < 0) = true := decide_eq_true hx0
            have HE := Aside0.mk (HL.out.2 (inAll_not AM.out (.inl hx0)))
            clear hx0
            go_wp2
            go_ret2
            exact ⟨_, congrArg (fun z => Ending.returned (.tuple #[_, .int .i64 z])) HE.out.2.symm, by rw [HE.out.1]; exact Kd.R_nil _ _ _ _ _, HB.out⟩
          by_cases hx1 : d ≤ x
          · have c2 : decide (x < 0) = false := decide_eq_false hx0
            have c3 : decide (d ≤ x) = true := decide_eq_true hx1
            have HE := Aside0.mk (HL.out.2 (inAll_not AM.out (.inr hx1)))
            clear hx0 hx1
            go_wp2
            go_ret2
            exact ⟨_, congrArg (fun z => Ending.returned (.tuple #[_, .int .i64 z])) HE.out.2.symm, by rw [HE.out.1]; exact Kd.R_nil _ _ _ _ _, HB.out⟩
          have c2 : decide (x < 0) = false := decide_eq_false hx0
          have c3 : decide (d ≤ x) = false := decide_eq_false hx1
          have AX0 := Aside0.mk (show 0 ≤ x by omega)
          have AX1 := Aside0.mk (show x < d by omega)
          clear hx0 hx1
          go_wp2_with ((at_delete; obtain ⟨D, hown, hat⟩ := HM.out; refine wpList_delete_own (H := Unit) _ rfl _ _ 40 3 rfl 3 (int_keyed Try.underlying3) Try.underlying40 _ _ dn D rfl hown _ _ rfl (keyOf_int_mk Try.underlying3 (wf_small AX0.out (by have := AX1.out; have := HD1.out; omega))) ?_; intro w5 hown1 hturn; have hgr := hturn.grown; have n0 := Aside0.mk (HB.out.grown hgr HB.out.size (fun j hj => (by cases hj; exact HW2.out))); have n1 := Aside0.mk (blk_grown BK.out hgr (fun e => (by injection e with e; have := HG.out; omega))); have n2 := Aside0.mk ((MapI.del hat hown1).as (Nat.le_refl _) (M2_step d (l1.take k) x)); clear HB BK HM hown hat hown1 hgr hturn hc3 hf3 hx2; have HB := n0; have BK := n1; have HM := n2; clear n0 n1 n2))
          go_roundg (gk - 1)
          case measure =>
            have := AX.out
            have := HK.out
            omega
          case rel =>
            have h1 := AX.out
            have h2 := HK.out
            have h3 := HN.out
            exact ⟨k + 1, by rw [show wrap64 ((k : Int) + 1) = ((k + 1 : Nat) : Int) by unfold wrap64; omega], Aside0.mk ⟨by omega, by omega⟩, BK, HB, Aside0.mk (by rw [AF.out]; exact HM.out), Aside0.mk (by rw [AF.out]; exact inAll_end HI.out AX0.out AX1.out)⟩
        · have b3 : decide ((k : Int) < (l1.length : Int)) = false := decide_eq_false (by omega)
          have b4 : decide (k < l1.length) = false := decide_eq_false hlt
          have e1 : l1.take k = l1 := List.take_of_length_le (by omega)
          have hi := HI.out
          rw [e1] at hi
          have HE := Aside0.mk (HL.out.1 hi)
          have HM3 := Aside0.mk (show MapI wr w2.heap.size dn (M2 d l1) by have := HM.out; rwa [e1] at this)
          have hc3 : wr.cell? ⟨g2, 3, none⟩ = some (.int .i64 d) := (blk_cell BK.out 3).trans rfl
          have hf3 := blk_frozen BK.out 3
          clear hlt e1 hi HI HM
          go_wp2
          go_loopg [11, 49] dn (fun kq v11 v49 wr => ∃ k : Nat, v49 = .int .i64 (k : Int) ∧ Aside0 (k ≤ dn ∧ dn - k ≤ kq) ∧ Aside0 (Below w.heap.size w wr) ∧ Aside0 (MapI wr w2.heap.size dn (M2 d l1)) ∧ Aside0 (Kd.R (Kd.int .i64) 3 wr w.heap.size (fun k_ => k_ ≠ w2.heap.size) v11 (freeOf k l1)))
          case atStart => exact ⟨0, rfl, Aside0.mk ⟨by omega, by omega⟩, HB, HM3, Aside0.mk (Kd.R_nil _ _ _ _ _)⟩
          case round =>
            clear HB BK HM3 AX b3 b4 hc3 hf3
            obtain ⟨k, rfl, AX, HB, HM, HO⟩ := hrel
            by_cases hlt : (k : Int) < d
            · have c1 : decide ((k : Int) < d) = true := decide_eq_true hlt
              have HK1 := Aside0.mk hlt
              clear hlt
              have AZ := Aside0.mk (M2_one (l := l1) (show (0 : Int) ≤ (k : Int) by omega) HK1.out)
              by_cases hin : (k : Int) ∈ l1
              · have AI := Aside0.mk (AZ.out.1 hin)
                have AJ := Aside0.mk (freeOf_in hin)
                clear hin AZ
                go_wp2_with ((at_lookup; obtain ⟨D, hown, hat⟩ := HM.out; refine wpList_lookup_own_int (H := Unit) _ rfl _ _ 40 rfl 3 3 .i64 (int_keyed Try.underlying3) Try.underlying40 Try.underlying3 (zero3 _) _ dn D rfl hown _ _ rfl (keyOf_int_mk Try.underlying3 (wf_small (by omega) (by have := HD1.out; have := HK1.out; omega))) ?_; intro cv hat2 hwc; obtain rfl : cv = 0 := (by have h1 := hat (k : Int); rw [AI.out] at h1; have h2 := hat2.symm.trans h1; simpa using h2); clear hown hat hat2 hwc))
                go_roundg (gk - 1)
                case measure =>
                  have := AX.out
                  have := HK1.out
                  have := HDN.out
                  omega
                case rel =>
                  have h1 := AX.out
                  have h2 := HK1.out
                  have h3 := HDN.out
                  exact ⟨k + 1, by rw [show wrap64 ((k : Int) + 1) = ((k + 1 : Nat) : Int) by unfold wrap64; have := HD1.out; omega], Aside0.mk ⟨by omega, by omega⟩, HB, HM, Aside0.mk (by rw [AJ.out]; exact HO.out)⟩
              · have AI := Aside0.mk (AZ.out.2 hin)
                have AJ := Aside0.mk (freeOf_out hin)
                have AL := Aside0.mk (freeOf_len k l1)
                clear hin AZ
                go_wp2_with (first | (at_lookup; obtain ⟨D, hown, hat⟩ := HM.out; refine wpList_lookup_own_int (H := Unit) _ rfl _ _ 40 rfl 3 3 .i64 (int_keyed Try.underlying3) Try.underlying40 Try.underlying3 (zero3 _) _ dn D rfl hown _ _ rfl (keyOf_int_mk Try.underlying3 (wf_small (by omega) (by have := HD1.out; have := HK1.out; omega))) ?_; intro cv hat2 hwc; obtain rfl : cv = 1 := (by have h1 := hat (k : Int); rw [AI.out] at h1; have h2 := hat2.symm.trans h1; simpa using h2); clear hown hat hat2 hwc) | ((with_reducible refine gate_builtin (b := .append) (xs := #[.tmp 56, .tmp 58]) rfl ?_); at_builtin; refine Kd.R_append (Kd.int .i64) (w0 := w) w.heap.size rfl (.tmp 56) (.tmp 58) 26 3 (.int .i64 0) 8 rfl Try.underlying26 info3 rfl (by decide) (by omega) _ (freeOf k l1) (k : Int) [.int .i64 (k : Int)] (fun k_ => k_ ≠ w2.heap.size) (fun _ => False) rfl rfl rfl (fun _ hk => hk.elim) (fun k_ hk => (by have := HM.out.lt; omega)) HO.out HB.out HB.out.size (by have := AL.out; have := AX.out; have := HD1.out; have := HDN.out; omega) ?_; intro v9 w9 ho hb hg hat; have hne := (fun e => HO.out.1 _ (Eq.symm e) rfl : some w2.heap.size ≠ _); rw [← AJ.out] at ho; have n2 := Aside0.mk (HM.out.grown hg hne); clear HM HB HO; have HM := n2; have HB := Aside0.mk hb; have HO := Aside0.mk ho; clear n2 hb ho hg hat hne))
                go_roundg (gk - 1)
                case measure =>
                  have := AX.out
                  have := HK1.out
                  have := HDN.out
                  omega
                case rel =>
                  have h1 := AX.out
                  have h2 := HK1.out
                  have h3 := HDN.out
                  exact ⟨k + 1, by rw [show wrap64 ((k : Int) + 1) = ((k + 1 : Nat) : Int) by unfold wrap64; have := HD1.out; omega], Aside0.mk ⟨by omega, by omega⟩, HB, HM, HO⟩
            · have c1 : decide ((k : Int) < d) = false := decide_eq_false hlt
              have HK1 := Aside0.mk hlt
              clear hlt
              go_wp2
              go_ret2
              refine ⟨_, congrArg (fun z => Ending.returned (.tuple #[_, .int .i64 z])) HE.out.2.symm, ?_, HB.out⟩
              rw [HE.out.1]
              have h1 := AX.out
              have h2 := HK1.out
              have h3 := HDN.out
              have h := HO.out
              rw [show k = d.toNat by omega] at h
              exact Kd.R_mono h (fun _ _ => trivial)
theorem rows_Free.calls (a0_0 : Int) (a0_1 : Int) (a0_2 : Int) (a0_3 : Int) (A1 : Option Addr) (c1 : Nat) (l1 : List Int) (r1 : List Int) (r2 : Int) (w : World) (hr1 : Kd.C (Kd.int .i64) w A1 l1.length l1) (hc1 : l1.length ≤ c1) (h : rows_Free.f a0_0 a0_1 a0_2 a0_3 l1 = some (r1, r2)) :
    Calls Try.prog 9 #[.agg #[.int .i64 a0_0, .int .i64 a0_1, .int .i64 a0_2, .int .i64 a0_3], .slice A1 l1.length c1] w fun e w' => ∃ v0_ : Value, e = .returned (.tuple #[v0_, .int .i64 r2]) ∧ Kd.R (Kd.int .i64) 3 w' w.heap.size (fun _ => True) v0_ r1 ∧ Below w.heap.size w w' := by
  unfold rows_Free.f at h
  by_cases ho : okP a0_0 a0_1 a0_2 a0_3 = true
  · rw [if_pos ho] at h
    have hk : layout_Check.f a0_0 a0_1 a0_2 a0_3 = some 0 := by rw [layout_Check.f, if_pos ho]
    have hp := okP_iff.mp ho
    by_cases h6 : 65536 < l1.length
    · rw [if_pos h6] at h
      obtain ⟨rfl, rfl⟩ := Prod.mk.inj (Option.some.inj h)
      exact free_long _ _ _ _ A1 c1 l1 w hk h6
    · rw [if_neg h6] at h
      have hm := fun L E hL => free_main a0_0 a0_1 a0_2 a0_3 A1 c1 l1 w hk hr1 (by omega) (by omega) h6 L E hL
      by_cases hi : inAll a0_3 l1 = true
      · rw [if_pos hi] at h
        obtain ⟨rfl, rfl⟩ := Prod.mk.inj (Option.some.inj h)
        exact hm _ _ ⟨fun _ => ⟨rfl, rfl⟩, fun hh => by rw [hi] at hh; cases hh⟩
      · rw [if_neg hi] at h
        obtain ⟨rfl, rfl⟩ := Prod.mk.inj (Option.some.inj h)
        exact hm _ _ ⟨fun hh => absurd hh hi, fun _ => ⟨rfl, rfl⟩⟩
  · rw [if_neg ho] at h
    have hk : layout_Check.f a0_0 a0_1 a0_2 a0_3 = some 2 := by rw [layout_Check.f, if_neg ho]
    obtain ⟨rfl, rfl⟩ := Prod.mk.inj (Option.some.inj h)
    exact free_bad _ _ _ _ A1 c1 l1 w hk

/-! ### rows_listed: function 20 -/
def rows_listed.l0 : Nat → List Int → List Int → Int → Int → Int → Int → Int → Int → Option (Int)
  | 0, _, _, _, _, _, _, _, _ => none
  | k + 1, x1, x10, x11, x12, x103000, x103001, x103002, x103003 => if x12 < x11 then (if 0 ≤ x12 then (if x12 < (x10.length : Int) then (if (rd x10 x12) < 0 then (some 200) else (if (rd x10 x12) ≥ x103003 then (some 200) else (if x12 > 0 then (if 0 ≤ (wrap64 (x12 - 1)) then (if (wrap64 (x12 - 1)) < (x1.length : Int) then (if (rd x10 x12) ≤ (rd x1 (wrap64 (x12 - 1))) then (some 200) else (rows_listed.l0 k x1 x10 x11 (wrap64 (x12 + 1)) x103000 x103001 x103002 x103003)) else (none)) else (none)) else (rows_listed.l0 k x1 x10 x11 (wrap64 (x12 + 1)) x103000 x103001 x103002 x103003)))) else (none)) else (none)) else (some 0)
def rows_listed.f (k : Nat) (a0_0 : Int) (a0_1 : Int) (a0_2 : Int) (a0_3 : Int) (l1 : List Int) : Option (Int) := if (l1.length : Int) > 65536 then (some 20) else (rows_listed.l0 k l1 l1 (l1.length : Int) 0 a0_0 a0_1 a0_2 a0_3)
theorem rows_listed.mono_l : ∀ k, (∀ y0 y1 y2 y3 y4 y5 y6 y7, LeO (rows_listed.l0 k y0 y1 y2 y3 y4 y5 y6 y7) (rows_listed.l0 (k + 1) y0 y1 y2 y3 y4 y5 y6 y7))
  | 0 => fun _ _ _ _ _ _ _ _ r h => by simp [rows_listed.l0] at h
  | k + 1 => by
    have ih0 := rows_listed.mono_l k
    · intro y0 y1 y2 y3 y4 y5 y6 y7
      unfold rows_listed.l0
      repeat' first
      | (with_reducible exact ih0 _ _ _ _ _ _ _ _)
      | (with_reducible exact LeO.refl _)
      | (with_reducible exact LeO.none _)
      | (with_reducible refine LeO.ite ?_ ?_)
      | (with_reducible refine LeO.bind ?_ (fun _ => ?_))
      | exact ih0 _ _ _ _ _ _ _ _
      | exact LeO.none _
      | refine LeO.ite ?_ ?_
      | refine LeO.bind ?_ (fun _ => ?_)
theorem rows_listed.mono : ∀ a0 a1 a2 a3 a4 k, LeO (rows_listed.f k a0 a1 a2 a3 a4) (rows_listed.f (k + 1) a0 a1 a2 a3 a4) := by
  intro a0 a1 a2 a3 a4 k
  have ih0 := rows_listed.mono_l k
  unfold rows_listed.f
  repeat' first
      | (with_reducible exact ih0 _ _ _ _ _ _ _ _)
      | (with_reducible exact LeO.refl _)
      | (with_reducible exact LeO.none _)
      | (with_reducible refine LeO.ite ?_ ?_)
      | (with_reducible refine LeO.bind ?_ (fun _ => ?_))
      | exact ih0 _ _ _ _ _ _ _ _
      | exact LeO.none _
      | refine LeO.ite ?_ ?_
      | refine LeO.bind ?_ (fun _ => ?_)
set_option maxHeartbeats 8000000 in
set_option maxRecDepth 100000 in
theorem rows_listed.calls (k : Nat) (a0_0 : Int) (a0_1 : Int) (a0_2 : Int) (a0_3 : Int) (A1 : Option Addr) (c1 : Nat) (l1 : List Int) (r : Int) (w : World) (hr1 : Kd.C (Kd.int .i64) w A1 l1.length l1) (hc1 : l1.length ≤ c1) (h : rows_listed.f k a0_0 a0_1 a0_2 a0_3 l1 = some r) :
    Calls Try.prog 20 #[.agg #[.int .i64 a0_0, .int .i64 a0_1, .int .i64 a0_2, .int .i64 a0_3], .slice A1 l1.length c1] w fun e w' => e = .returned (.int .i64 r) ∧ Below w.heap.size w w' := by
  have hu24 := Try.underlying24
  have HR1 := Aside0.mk hr1
  have HC1 := Aside0.mk hc1
  clear hr1 hc1
  have HB := Aside0.mk (Below.refl w.heap.size w)
  have H : (if (l1.length : Int) > 65536 then (some 20) else (rows_listed.l0 k l1 l1 (l1.length : Int) 0 a0_0 a0_1 a0_2 a0_3)) = some r := h
  clear h
  by_cases c3 : (l1.length : Int) > 65536
  · rw [if_pos c3] at H
    have c3b0 : decide (65536 < (l1.length : Int)) = true := decide_eq_true c3
    have c3b1 : decide (65536 < l1.length) = true := decide_eq_true (by omega)
    clear c3
    obtain rfl := Option.some.inj H
    go_enter Try.func20, Try.ntmps20
    go_wp2_with (first | ((with_reducible refine gate_dst (N := 2) rfl ?_); refine box_event ?hg (N := 2) ?hd (cs := #[.int .i64 a0_0, .int .i64 a0_1, .int .i64 a0_2, .int .i64 a0_3]) (t := 24) ?hr ?_; (case hd => rfl); (case hg => rfl); (case hr => first | (go_simp; done) | (go_simp; rfl)); intro gb102 hg w4 hbox hb; have n0_ := Aside0.mk (below_step (by repeat (first | (with_reducible first | exact HB.out | apply below_alloc | apply pw_below_drewN | apply below_drew1) | exact HB.out)) hb); have n1_ := Aside0.mk (hbox); have n2_ := Aside0.mk ((by rw [hg]; exact (below_size (by repeat (first | (with_reducible first | exact HB.out | apply below_alloc | apply pw_below_drewN | apply below_drew1) | exact HB.out))) : w.heap.size ≤ gb102)); have n3_ := Aside0.mk ((by rw [hg]; exact (below_size (by repeat (first | (with_reducible first | exact HB.out | apply below_alloc | apply pw_below_drewN | apply below_drew1) | exact HB.out))) : w.heap.size ≤ gb102)); clear HB; have HB := n0_; have BK102 := n1_; have GW102 := n2_; have GE102 := n3_; clear n0_ n1_ n2_ n3_; clear hb hbox hg))
    go_ret
    exact ⟨by first | rfl | (simp [errW_none, errW_some] <;> rfl) | (simp [*, errW_none, errW_some] <;> rfl), by repeat (first | (with_reducible first | exact HB.out | apply below_alloc | apply pw_below_drewN | apply below_drew1 | refine below_set ?_ GE102.out) | exact HB.out)⟩
  · rw [if_neg c3] at H
    have c3b0 : decide (65536 < (l1.length : Int)) = false := decide_eq_false c3
    have c3b1 : decide (65536 < l1.length) = false := decide_eq_false (by omega)
    clear c3
    have H' := Aside0.mk H
    clear H
    go_enter Try.func20, Try.ntmps20
    go_wp2_with (first | ((with_reducible refine gate_dst (N := 2) rfl ?_); refine box_event ?hg (N := 2) ?hd (cs := #[.int .i64 a0_0, .int .i64 a0_1, .int .i64 a0_2, .int .i64 a0_3]) (t := 24) ?hr ?_; (case hd => rfl); (case hg => rfl); (case hr => first | (go_simp; done) | (go_simp; rfl)); intro gb102 hg w5 hbox hb; have n0_ := Aside0.mk (below_step (by repeat (first | (with_reducible first | exact HB.out | apply below_alloc | apply pw_below_drewN | apply below_drew1) | exact HB.out)) hb); have n1_ := Aside0.mk (hbox); have n2_ := Aside0.mk ((by rw [hg]; exact (below_size (by repeat (first | (with_reducible first | exact HB.out | apply below_alloc | apply pw_below_drewN | apply below_drew1) | exact HB.out))) : w.heap.size ≤ gb102)); have n3_ := Aside0.mk ((by rw [hg]; exact (below_size (by repeat (first | (with_reducible first | exact HB.out | apply below_alloc | apply pw_below_drewN | apply below_drew1) | exact HB.out))) : w.heap.size ≤ gb102)); clear HB; have HB := n0_; have BK102 := n1_; have GW102 := n2_; have GE102 := n3_; clear n0_ n1_ n2_ n3_; clear hb hbox hg))
    go_loopg [12] k (fun kq v12 w' => ∃ (x12_1 : Int), v12 = .int .i64 x12_1 ∧ Aside0 (rows_listed.l0 kq l1 l1 (l1.length : Int) x12_1 a0_0 a0_1 a0_2 a0_3 = some r) ∧ Aside0 (kq ≤ k) ∧ Aside0 (w'.heap[gb102]? = some (.cells #[.int .i64 a0_0, .int .i64 a0_1, .int .i64 a0_2, .int .i64 a0_3] 24 (0, 0))) ∧ Aside0 (Below w.heap.size w w'))
    case atStart => exact ⟨(0), (by first | rfl | (simp; done) | (simp [*]; done)), H', ⟨Nat.le_refl _⟩, ⟨by (with_reducible repeat (first | refine blk_drewN ?_ _ | refine blk_drew ?_ | refine blk_alloc ?_ _)); exact BK102.out⟩, ⟨by repeat (first | (with_reducible first | exact HB.out | apply below_alloc | apply pw_below_drewN | apply below_drew1 | refine below_set ?_ GE102.out) | exact HB.out)⟩⟩
    case round =>
      clear H'
      try clear c1
      try clear c2
      try clear p2
      try clear c3
      try clear c3b0
      try clear c3b1
      obtain ⟨x12_1, rfl, HA, HK1, BK102, HB⟩ := hrel
      cases gk with
      | zero => exact absurd HA.out (by simp [rows_listed.l0])
      | succ k1 =>
        have H := HA.out
        clear HA
        simp only [rows_listed.l0] at H
        by_cases c6 : x12_1 < (l1.length : Int)
        · rw [if_pos c6] at H
          have c6b0 : decide (x12_1 < (l1.length : Int)) = true := decide_eq_true c6
          clear c6
          by_cases c7 : 0 ≤ x12_1
          · rw [if_pos c7] at H
            have c7b0 : decide (0 ≤ x12_1) = true := decide_eq_true c7
            clear c7
            by_cases c8 : x12_1 < (l1.length : Int)
            · rw [if_pos c8] at H
              have c8b0 : decide (x12_1 < (l1.length : Int)) = true := decide_eq_true c8
              clear c8
              by_cases c9 : (rd l1 x12_1) < 0
              · rw [if_pos c9] at H
                have c9b0 : decide ((rd l1 x12_1) < 0) = true := decide_eq_true c9
                clear c9
                obtain rfl := Option.some.inj H
                have p103 : 0 ≤ (x12_1 : Int) := of_decide_eq_true (by first | (with_reducible assumption) | assumption)
                have q103 : x12_1 < (l1.length : Int) := of_decide_eq_true (by first | (with_reducible assumption) | assumption)
                obtain ⟨ad103, e103, hx103_0⟩ := Kd.at_int HR1.out x12_1 p103 q103
                cases e103
                replace hx103_0 := (HB.out.cell (World.block_lt_of_cell? w _ hx103_0)).trans hx103_0
                replace p103 := eq_true p103
                replace q103 := eq_true q103
                go_wp2
                go_ret
                exact ⟨by first | rfl | (simp [errW_none, errW_some] <;> rfl) | (simp [*, errW_none, errW_some] <;> rfl), by repeat (first | (with_reducible first | exact HB.out | apply below_alloc | apply pw_below_drewN | apply below_drew1 | refine below_set ?_ GE102.out) | exact HB.out)⟩
              · rw [if_neg c9] at H
                have c9b0 : decide ((rd l1 x12_1) < 0) = false := decide_eq_false c9
                clear c9
                by_cases c10 : (rd l1 x12_1) ≥ a0_3
                · rw [if_pos c10] at H
                  have c10b0 : decide (a0_3 ≤ (rd l1 x12_1)) = true := decide_eq_true c10
                  clear c10
                  obtain rfl := Option.some.inj H
                  have p103 : 0 ≤ (x12_1 : Int) := of_decide_eq_true (by first | (with_reducible assumption) | assumption)
                  have q103 : x12_1 < (l1.length : Int) := of_decide_eq_true (by first | (with_reducible assumption) | assumption)
                  obtain ⟨ad103, e103, hx103_0⟩ := Kd.at_int HR1.out x12_1 p103 q103
                  cases e103
                  replace hx103_0 := (HB.out.cell (World.block_lt_of_cell? w _ hx103_0)).trans hx103_0
                  replace p103 := eq_true p103
                  replace q103 := eq_true q103
                  have hcz11_0 : wr.cell? ⟨gb102, 0, none⟩ = some (.int .i64 a0_0) := (blk_cell BK102.out 0).trans rfl
                  have hcz11_1 : wr.cell? ⟨gb102, 1, none⟩ = some (.int .i64 a0_1) := (blk_cell BK102.out 1).trans rfl
                  have hcz11_2 : wr.cell? ⟨gb102, 2, none⟩ = some (.int .i64 a0_2) := (blk_cell BK102.out 2).trans rfl
                  have hcz11_3 : wr.cell? ⟨gb102, 3, none⟩ = some (.int .i64 a0_3) := (blk_cell BK102.out 3).trans rfl
                  have hfz11_0 := blk_frozen BK102.out 0
                  have hfz11_1 := blk_frozen BK102.out 1
                  have hfz11_2 := blk_frozen BK102.out 2
                  have hfz11_3 := blk_frozen BK102.out 3
                  go_wp2
                  go_ret
                  exact ⟨by first | rfl | (simp [errW_none, errW_some] <;> rfl) | (simp [*, errW_none, errW_some] <;> rfl), by repeat (first | (with_reducible first | exact HB.out | apply below_alloc | apply pw_below_drewN | apply below_drew1 | refine below_set ?_ GE102.out) | exact HB.out)⟩
                · rw [if_neg c10] at H
                  have c10b0 : decide (a0_3 ≤ (rd l1 x12_1)) = false := decide_eq_false c10
                  clear c10
                  by_cases c12 : x12_1 > 0
                  · rw [if_pos c12] at H
                    have c12b0 : decide (0 < x12_1) = true := decide_eq_true c12
                    clear c12
                    obtain ⟨ji13, hji13⟩ : ∃ j_ : Int, (wrap64 (x12_1 - 1)) = j_ := ⟨_, rfl⟩
                    replace H : (if 0 ≤ (ji13) then (if (ji13) < (l1.length : Int) then (if (rd l1 x12_1) ≤ (rd l1 (ji13)) then (some 200) else (rows_listed.l0 k1 l1 l1 (l1.length : Int) (wrap64 (x12_1 + 1)) a0_0 a0_1 a0_2 a0_3)) else (none)) else (none)) = some r := by first | (rw [hji13] at H; exact H) | (simp only [hji13] at H ⊢; exact H)
                    have hji13w : (IntKind.i64.wrap (x12_1 - 1)) = ji13 := (i64_w _).trans hji13
                    by_cases c14 : 0 ≤ (ji13)
                    · rw [if_pos c14] at H
                      have c14b0 : decide (0 ≤ (ji13)) = true := decide_eq_true c14
                      clear c14
                      by_cases c15 : (ji13) < (l1.length : Int)
                      · rw [if_pos c15] at H
                        have c15b0 : decide ((ji13) < (l1.length : Int)) = true := decide_eq_true c15
                        clear c15
                        by_cases c16 : (rd l1 x12_1) ≤ (rd l1 (ji13))
                        · rw [if_pos c16] at H
                          have c16b0 : decide ((rd l1 x12_1) ≤ (rd l1 (ji13))) = true := decide_eq_true c16
                          clear c16
                          obtain rfl := Option.some.inj H
                          have p103 : 0 ≤ (x12_1 : Int) := of_decide_eq_true (by first | (with_reducible assumption) | assumption)
                          have q103 : x12_1 < (l1.length : Int) := of_decide_eq_true (by first | (with_reducible assumption) | assumption)
                          obtain ⟨ad103, e103, hx103_0⟩ := Kd.at_int HR1.out x12_1 p103 q103
                          cases e103
                          replace hx103_0 := (HB.out.cell (World.block_lt_of_cell? w _ hx103_0)).trans hx103_0
                          replace p103 := eq_true p103
                          replace q103 := eq_true q103
                          have hcz17_0 : wr.cell? ⟨gb102, 0, none⟩ = some (.int .i64 a0_0) := (blk_cell BK102.out 0).trans rfl
                          have hcz17_1 : wr.cell? ⟨gb102, 1, none⟩ = some (.int .i64 a0_1) := (blk_cell BK102.out 1).trans rfl
                          have hcz17_2 : wr.cell? ⟨gb102, 2, none⟩ = some (.int .i64 a0_2) := (blk_cell BK102.out 2).trans rfl
                          have hcz17_3 : wr.cell? ⟨gb102, 3, none⟩ = some (.int .i64 a0_3) := (blk_cell BK102.out 3).trans rfl
                          have hfz17_0 := blk_frozen BK102.out 0
                          have hfz17_1 := blk_frozen BK102.out 1
                          have hfz17_2 := blk_frozen BK102.out 2
                          have hfz17_3 := blk_frozen BK102.out 3
                          have p104 : 0 ≤ ((ji13) : Int) := of_decide_eq_true (by first | (with_reducible assumption) | assumption)
                          have q104 : (ji13) < (l1.length : Int) := of_decide_eq_true (by first | (with_reducible assumption) | assumption)
                          obtain ⟨ad104, e104, hx104_0⟩ := Kd.at_int HR1.out (ji13) p104 q104
                          obtain rfl : ad103 = ad104 := (by injection e104)
                          replace hx104_0 := (HB.out.cell (World.block_lt_of_cell? w _ hx104_0)).trans hx104_0
                          replace p104 := eq_true p104
                          replace q104 := eq_true q104
                          go_wp2
                          go_ret
                          exact ⟨by first | rfl | (simp [errW_none, errW_some] <;> rfl) | (simp only [← hji13]; first | rfl | (simp [errW_none, errW_some] <;> rfl)) | (simp [*, errW_none, errW_some] <;> rfl), by repeat (first | (with_reducible first | exact HB.out | apply below_alloc | apply pw_below_drewN | apply below_drew1 | refine below_set ?_ GE102.out) | exact HB.out)⟩
                        · rw [if_neg c16] at H
                          have c16b0 : decide ((rd l1 x12_1) ≤ (rd l1 (ji13))) = false := decide_eq_false c16
                          clear c16
                          have H' := Aside0.mk H
                          clear H
                          have p103 : 0 ≤ (x12_1 : Int) := of_decide_eq_true (by first | (with_reducible assumption) | assumption)
                          have q103 : x12_1 < (l1.length : Int) := of_decide_eq_true (by first | (with_reducible assumption) | assumption)
                          obtain ⟨ad103, e103, hx103_0⟩ := Kd.at_int HR1.out x12_1 p103 q103
                          cases e103
                          replace hx103_0 := (HB.out.cell (World.block_lt_of_cell? w _ hx103_0)).trans hx103_0
                          replace p103 := eq_true p103
                          replace q103 := eq_true q103
                          have hcz18_0 : wr.cell? ⟨gb102, 0, none⟩ = some (.int .i64 a0_0) := (blk_cell BK102.out 0).trans rfl
                          have hcz18_1 : wr.cell? ⟨gb102, 1, none⟩ = some (.int .i64 a0_1) := (blk_cell BK102.out 1).trans rfl
                          have hcz18_2 : wr.cell? ⟨gb102, 2, none⟩ = some (.int .i64 a0_2) := (blk_cell BK102.out 2).trans rfl
                          have hcz18_3 : wr.cell? ⟨gb102, 3, none⟩ = some (.int .i64 a0_3) := (blk_cell BK102.out 3).trans rfl
                          have hfz18_0 := blk_frozen BK102.out 0
                          have hfz18_1 := blk_frozen BK102.out 1
                          have hfz18_2 := blk_frozen BK102.out 2
                          have hfz18_3 := blk_frozen BK102.out 3
                          have p104 : 0 ≤ ((ji13) : Int) := of_decide_eq_true (by first | (with_reducible assumption) | assumption)
                          have q104 : (ji13) < (l1.length : Int) := of_decide_eq_true (by first | (with_reducible assumption) | assumption)
                          obtain ⟨ad104, e104, hx104_0⟩ := Kd.at_int HR1.out (ji13) p104 q104
                          obtain rfl : ad103 = ad104 := (by injection e104)
                          replace hx104_0 := (HB.out.cell (World.block_lt_of_cell? w _ hx104_0)).trans hx104_0
                          replace p104 := eq_true p104
                          replace q104 := eq_true q104
                          go_wp2
                          go_roundg k1
                          case measure => have := HK1.out; omega
                          case rel => exact ⟨(wrap64 (x12_1 + 1)), (by first | rfl | (simp; done) | (simp [*]; done)), H', ⟨by have := HK1.out; omega⟩, ⟨by (with_reducible repeat (first | refine blk_drewN ?_ _ | refine blk_drew ?_ | refine blk_alloc ?_ _)); exact BK102.out⟩, ⟨by repeat (first | (with_reducible first | exact HB.out | apply below_alloc | apply pw_below_drewN | apply below_drew1 | refine below_set ?_ GE102.out) | exact HB.out)⟩⟩
                      · rw [if_neg c15] at H
                        exact absurd H (by simp)
                    · rw [if_neg c14] at H
                      exact absurd H (by simp)
                  · rw [if_neg c12] at H
                    have c12b0 : decide (0 < x12_1) = false := decide_eq_false c12
                    clear c12
                    have H' := Aside0.mk H
                    clear H
                    have p103 : 0 ≤ (x12_1 : Int) := of_decide_eq_true (by first | (with_reducible assumption) | assumption)
                    have q103 : x12_1 < (l1.length : Int) := of_decide_eq_true (by first | (with_reducible assumption) | assumption)
                    obtain ⟨ad103, e103, hx103_0⟩ := Kd.at_int HR1.out x12_1 p103 q103
                    cases e103
                    replace hx103_0 := (HB.out.cell (World.block_lt_of_cell? w _ hx103_0)).trans hx103_0
                    replace p103 := eq_true p103
                    replace q103 := eq_true q103
                    have hcz19_0 : wr.cell? ⟨gb102, 0, none⟩ = some (.int .i64 a0_0) := (blk_cell BK102.out 0).trans rfl
                    have hcz19_1 : wr.cell? ⟨gb102, 1, none⟩ = some (.int .i64 a0_1) := (blk_cell BK102.out 1).trans rfl
                    have hcz19_2 : wr.cell? ⟨gb102, 2, none⟩ = some (.int .i64 a0_2) := (blk_cell BK102.out 2).trans rfl
                    have hcz19_3 : wr.cell? ⟨gb102, 3, none⟩ = some (.int .i64 a0_3) := (blk_cell BK102.out 3).trans rfl
                    have hfz19_0 := blk_frozen BK102.out 0
                    have hfz19_1 := blk_frozen BK102.out 1
                    have hfz19_2 := blk_frozen BK102.out 2
                    have hfz19_3 := blk_frozen BK102.out 3
                    go_wp2
                    go_roundg k1
                    case measure => have := HK1.out; omega
                    case rel => exact ⟨(wrap64 (x12_1 + 1)), (by first | rfl | (simp; done) | (simp [*]; done)), H', ⟨by have := HK1.out; omega⟩, ⟨by (with_reducible repeat (first | refine blk_drewN ?_ _ | refine blk_drew ?_ | refine blk_alloc ?_ _)); exact BK102.out⟩, ⟨by repeat (first | (with_reducible first | exact HB.out | apply below_alloc | apply pw_below_drewN | apply below_drew1 | refine below_set ?_ GE102.out) | exact HB.out)⟩⟩
            · rw [if_neg c8] at H
              exact absurd H (by simp)
          · rw [if_neg c7] at H
            exact absurd H (by simp)
        · rw [if_neg c6] at H
          have c6b0 : decide (x12_1 < (l1.length : Int)) = false := decide_eq_false c6
          clear c6
          obtain rfl := Option.some.inj H
          go_wp2
          go_ret
          exact ⟨by first | rfl | (simp [errW_none, errW_some] <;> rfl) | (simp [*, errW_none, errW_some] <;> rfl), by repeat (first | (with_reducible first | exact HB.out | apply below_alloc | apply pw_below_drewN | apply below_drew1 | refine below_set ?_ GE102.out) | exact HB.out)⟩

/-! ### slices_Clone_int_int: function 21 (by hand) -/
theorem C_plain {w : World} {A : Option Addr} {n : Nat} {l : List Int} (h : Kd.C (Kd.int .i64) w A n l) (hn : 0 < n) : ∃ b off, A = some ⟨b, off, none⟩ ∧ ∀ j, j < n → w.cell? ⟨b, off + j, none⟩ = some (.int .i64 (l.getD j 0)) := by
  obtain ⟨ad, e, hc⟩ := (Kd.reads_of_C (d := 0) h).2.2 hn
  obtain ⟨b, off, sp⟩ := ad
  have h0 := hc 0 hn
  have hs : sp = none := by
    unfold World.cell? Addr.add at h0
    rw [if_pos rfl] at h0
    cases sp with
    | none => rfl
    | some x =>
      dsimp only at h0
      split at h0 <;> simp at h0
  subst hs
  refine ⟨b, off, e, fun j hj => ?_⟩
  have := hc j hj
  rwa [show (⟨b, off, none⟩ : Addr).add j = ⟨b, off + j, none⟩ from by unfold Addr.add; split <;> simp_all] at this
def slices_Clone_int_int.f (l0 : List Int) : Option (List Int) := if l0.length ≤ 17592186044416 then some l0 else none
theorem slices_Clone_int_int.calls (A0 : Option Addr) (c0 : Nat) (l0 : List Int) (r : List Int) (w : World) (hr0 : Kd.C (Kd.int .i64) w A0 l0.length l0) (hc0 : l0.length ≤ c0) (h : slices_Clone_int_int.f l0 = some r) :
    Calls Try.prog 21 #[.slice A0 l0.length c0] w fun e w' => ∃ v0_ : Value, e = .returned (v0_) ∧ Kd.R (Kd.int .i64) 3 w' w.heap.size (fun _ => True) v0_ r ∧ Below w.heap.size w w' := by
  unfold slices_Clone_int_int.f at h
  by_cases hb : l0.length ≤ 17592186044416
  · rw [if_pos hb] at h
    obtain rfl : l0 = r := Option.some.inj h
    by_cases hn : 0 < l0.length
    · obtain ⟨b, off, rfl, hc⟩ := C_plain hr0 hn
      refine (Try.slices_Clone_int b off l0.length c0 l0 w (Nat.le_refl _) (by omega) hc).mono ?_
      rintro e w' ⟨v, rfl, ho, _, hbl⟩
      rw [List.take_length] at ho
      exact ⟨v, rfl, Kd.R_of_own ho (fun _ _ => trivial), hbl⟩
    · obtain rfl : l0 = [] := List.eq_nil_of_length_eq_zero (by omega)
      cases A0 with
      | none =>
        refine (Try.slices_Clone_int_nil 0 c0 w).mono ?_
        rintro e w' ⟨rfl, rfl⟩
        exact ⟨_, rfl, Kd.R_nil _ _ _ _ _, Below.refl _ _⟩
      | some a =>
        refine (Try.slices_Clone_int_zero a c0 w).mono ?_
        rintro e w' ⟨v, rfl, ho, _, hbl⟩
        exact ⟨v, rfl, Kd.R_of_own ho (fun _ _ => trivial), hbl⟩
  · rw [if_neg hb] at h
    cases h

end Go.Proofs.Ytppmkojpbgedmaa.P

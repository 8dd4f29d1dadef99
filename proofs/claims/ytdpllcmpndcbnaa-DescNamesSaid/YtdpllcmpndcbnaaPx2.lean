-- Written by a program of this session, after the kit's print.
import Derived.Test.YtdpllcmpndcbnaaPx0
import Derived.Test.YtdpllcmpndcbnaaP0Short
namespace Go.Proofs.Ytdpllcmpndcbnaa.P
open Go.RowKit Go.Proofs.YtdpllcmpndcbnaaW.PrintWords Go.Proofs.YtdpllcmpndcbnaaW.PrintLast Go.Proofs.YtdpllcmpndcbnaaW.PrintMore
attribute [local go_sem] max2_int min2_int max_two min_two max_three min_three max_four min_four   -- for this text's walks alone
set_option linter.unusedVariables false
set_option linter.unusedSimpArgs false

/-- 'append(l[:n:n], x)' of a list of n: a copy with one more. -/
def ref_grow.f (l : List S27) (x0 x1 : Int) (n : Int) : Option (List S27) := if (l.length : Int) = n ∧ 0 < n ∧ n ≤ 1000 then some (l ++ [⟨x0, x1⟩]) else none
theorem ref_grow.is {l : List S27} {x0 x1 n : Int} {r : List S27} (h : ref_grow.f l x0 x1 n = some r) : (l.length : Int) = n ∧ 0 < n ∧ n ≤ 1000 ∧ r = l ++ [⟨x0, x1⟩] := by
  unfold ref_grow.f at h
  by_cases hc : (l.length : Int) = n ∧ 0 < n ∧ n ≤ 1000
  rotate_left
  · rw [if_neg hc] at h
    cases h
  rw [if_pos hc] at h
  exact ⟨hc.1, hc.2.1, hc.2.2, (Option.some.inj h).symm⟩
theorem grow_ev (W : World) (base : Nat) (ok : Nat → Prop) (A : Option Addr) (n c : Nat) (l r : List S27) (x0 x1 k : Int) (ho : Kd.R k27 27 W base ok (.slice A l.length c) l) (hk : k = (n : Int)) (h : ref_grow.f l x0 x1 k = some r) :
    ∃ v W1, (Builtin.append_ #[28, 28] 28 #[.slice A n n, .slice (some ⟨W.heap.size, 0, none⟩) 1 1]).run Try.prog (W.alloc (.cells #[.int .i64 x0, .int .i64 x1] 27)) = .ok v W1 ∧ Kd.R k27 27 W1 W.heap.size (fun _ => True) v r ∧ Below W.heap.size W W1 := by
  subst hk
  obtain ⟨hl, h0, h1, rfl⟩ := ref_grow.is h
  have hn : l.length = n := by omega
  obtain ⟨_, inner, hw, hr⟩ := ho
  have hin : inner.length = l.length * 2 := hr.1
  have hw2 := hw.alloc (.cells #[.int .i64 x0, .int .i64 x1] 27)
  rcases hw.2 with ⟨_, hz⟩ | ⟨g, cap, cur, he, hbg, hg, hnc, hcm, hcs, htake⟩
  · omega
  injection he with ea _ _
  subst ea
  obtain ⟨i0, hi, hzz⟩ := Option.map_eq_some_iff.1 info27
  simp only [Prod.mk.injEq] at hzz
  obtain ⟨hz0, hz1, hz2⟩ := hzz
  have holds : ∀ j u, inner[j]? = some u → (W.alloc (.cells #[.int .i64 x0, .int .i64 x1] 27)).cell? ((⟨g, 0, none⟩ : Addr).add j) = some u := hw2.cells (g := g) rfl
  have hnews : ∀ j u, [Value.int .i64 x0, Value.int .i64 x1][j]? = some u → (W.alloc (.cells #[.int .i64 x0, .int .i64 x1] 27)).cell? ((⟨W.heap.size, 0, none⟩ : Addr).add j) = some u :=
    World.news_of_block (cs := #[Value.int .i64 x0, Value.int .i64 x1]) (t := 27) (fr := (0, 0)) (heap_alloc_new W _)
  have hrun := run_append_grow (P := Try.prog) (W.alloc (.cells #[.int .i64 x0, .int .i64 x1] 27)) 28 28 27 i0 _ (by rw [← Try.underlying28]) hi hz0 ⟨g, 0, none⟩ n n inner (by rw [hz1, hin, hn]) holds ⟨W.heap.size, 0, none⟩ 1 1 [.int .i64 x0, .int .i64 x1] (by rw [hz1]; rfl) hnews (by omega) (by omega) (growslice_fits (by omega) (by rw [hz2]; omega))
  refine ⟨_, _, hrun, ⟨fun _ _ => trivial, inner ++ [.int .i64 x0, .int .i64 x1], ?_, ?_⟩, ?_⟩
  · have hge := grownCap_ge (W.alloc (.cells #[.int .i64 x0, .int .i64 x1] 27)) (n + 1) n 27
    have hcm := grownCap_le_maxLen (W.alloc (.cells #[.int .i64 x0, .int .i64 x1] 27)) (n + 1) n 27 (by simp only [maxLen]; omega)
    have hlen : (inner ++ [Value.int .i64 x0, Value.int .i64 x1]).length = (n + 1) * 2 := by rw [List.length_append, hin, hn]; simp; omega
    rw [show (l ++ [(⟨x0, x1⟩ : S27)]).length = n + 1 by rw [List.length_append, hn]; rfl]
    show World.ownsRow _ _ 27 2 _ _ _
    refine ⟨hlen, .inr ⟨_, _, _, rfl, by simp, heap_alloc_new _ _, hge, hcm, ?_, ?_⟩⟩
    · have hzs : (Value.agg #[Value.int .i64 0, Value.int .i64 0]).cells.size = 2 := rfl
      simp only [Array.size_append, List.size_toArray, size_zeroCells, hzs, hin, hn, List.length_cons, List.length_nil]
      omega
    · simp only [Array.toList_append, List.append_assoc]
      rw [← List.append_assoc, ← hlen]
      exact List.take_left
  · refine Reps.snoc ⟨by rw [hin]; rfl, fun j p hp => ?_⟩ (k27_mkM _ _ _ ⟨x0, x1⟩) rfl
    have := hr.2 j p hp
    rw [k27_openM this]
    exact k27_mkM _ _ _ p
  · exact below_alloc (below_drew1 (below_alloc (Below.refl _ _) _)) _
theorem grow_cut (W : World) (A : Option Addr) (n m c : Nat) (hm : m ≤ n) (hc : n ≤ c) (k : Int) (hk : k = (m : Int)) : (Instr.slice 28 (.slice A n c) none (some (.int .i64 k)) (some (.int .i64 k))).run Try.prog W = .ok (.slice (if m = 0 then A else A.map (·.add 0)) m m) W := by
  subst hk
  have he : Try.prog.elem 28 = 27 := by kernel_rfl
  have h := run_slice_hm (P := Try.prog) W 28 A n c (by rw [he]; exact Try.underlying28) .i64 .i64 (m : Int) (m : Int) (by omega) (by omega) (by omega)
  rw [h, he]
  have hs : (sizeOf 27).run Try.prog W = .ok 2 W := by kernel_rfl
  rw [hs]
  show Result.ok (sliced A 0 (m : Int).toNat (m : Int).toNat 2) W = _
  unfold sliced
  simp
def twoslotlaw15_sample.f  : Option (Int × Int × Int × Int) := some (4, 2, 16, 32)
set_option maxHeartbeats 8000000 in
set_option maxRecDepth 100000 in
theorem twoslotlaw15_sample.calls  (r1 : Int) (r2 : Int) (r3 : Int) (r4 : Int) (w : World) (h : twoslotlaw15_sample.f  = some (r1, r2, r3, r4)) :
    Calls Try.prog 10 #[] w fun e w' => e = .returned (.agg #[.int .i64 r1, .int .i64 r2, .int .i64 r3, .int .i64 r4]) ∧ Below w.heap.size w w' := by
  have hu24 := Try.underlying24
  have HB := Aside0.mk (Below.refl w.heap.size w)
  have H : (some (4, 2, 16, 32)) = some (r1, r2, r3, r4) := h
  clear h
  simp only [Option.some.injEq, Prod.mk.injEq] at H
  obtain ⟨rfl, rfl, rfl, rfl⟩ := H
  go_enter Try.func10, Try.ntmps10
  go_wp2_with (first | ((with_reducible refine gate_dst (N := 0) rfl ?_); refine box_event rfl (N := 0) rfl (cs := #[.int .i64 0, .int .i64 0, .int .i64 0, .int .i64 0]) (t := 24) (by go_simp; try rfl) ?_; intro gb101 hg w1 hbox hb; have BK101 := Aside0.mk (hbox); have GW101 := Aside0.mk ((by rw [hg]; exact (sZ HB) : w.heap.size ≤ gb101)); have GE101 := Aside0.mk ((by rw [hg]; exact (sZ HB) : w.heap.size ≤ gb101)); replace HB := kH HB hb; clear hb hbox hg; obtain ⟨hcz2_0, hcz2_1, hcz2_2, hcz2_3, hfz2_0, hfz2_1, hfz2_2, hfz2_3⟩ := cs4 BK101.out))
  refine bodyPost_ret (results_cell_row rfl _ _ gb101 24 #[.int .i64 4, .int .i64 2, .int .i64 16, .int .i64 32] (0, 0) _ rfl (by (try refine sO ?_); refine blk_put (cs := #[.int .i64 4, .int .i64 2, .int .i64 16, .int .i64 0]) ?_ 3 _ rfl; (try refine sO ?_); refine blk_put (cs := #[.int .i64 4, .int .i64 2, .int .i64 0, .int .i64 0]) ?_ 2 _ rfl; (try refine sO ?_); refine blk_put (cs := #[.int .i64 4, .int .i64 0, .int .i64 0, .int .i64 0]) ?_ 1 _ rfl; (try refine sO ?_); refine blk_put (cs := #[.int .i64 0, .int .i64 0, .int .i64 0, .int .i64 0]) ?_ 0 _ rfl; first | exact BK101.out | (refine sO ?_; exact BK101.out)) Try.underlying24 rfl (by kernel_rfl)) rfl ?_
  exact ⟨by first | rfl | (simp [errW_none, errW_some] <;> rfl) | (simp [*, errW_none, errW_some] <;> rfl), by repeat (first | exact sH HB.out | refine sN (w := w) ?_ | with_reducible refine sG (w := w) ?_ (by assumption))⟩

/-- May parameters be? -/
def okP (a b c d : Int) : Bool := decide (1 ≤ a ∧ a ≤ 12 ∧ 0 ≤ b ∧ b ≤ 4 ∧ 8 ≤ c ∧ c ≤ 64 ∧ 32 ≤ a * c ∧ 8 ≤ d ∧ d ≤ 256)
theorem okP_iff {a b c d : Int} : okP a b c d = true ↔ (1 ≤ a ∧ a ≤ 12 ∧ 0 ≤ b ∧ b ≤ 4 ∧ 8 ≤ c ∧ c ≤ 64 ∧ 32 ≤ a * c ∧ 8 ≤ d ∧ d ≤ 256) := by simp [okP]
theorem mul_small {a c : Int} (h1 : 1 ≤ a) (h2 : a ≤ 12) (h3 : 8 ≤ c) (h4 : c ≤ 64) : 8 ≤ a * c ∧ a * c ≤ 768 := by
  have l : 1 * c ≤ a * c := Int.mul_le_mul_of_nonneg_right h1 (by omega)
  have r : a * c ≤ 12 * c := Int.mul_le_mul_of_nonneg_right h2 (by omega)
  omega
def layout_Check.f (a0_0 : Int) (a0_1 : Int) (a0_2 : Int) (a0_3 : Int) : Option Int := some (if okP a0_0 a0_1 a0_2 a0_3 = true then 0 else 2)
set_option maxHeartbeats 8000000 in
set_option maxRecDepth 100000 in
theorem layout_Check.calls (a0_0 : Int) (a0_1 : Int) (a0_2 : Int) (a0_3 : Int) (r : Int) (w : World) (h : layout_Check.f a0_0 a0_1 a0_2 a0_3 = some r) :
    Calls Try.prog 27 #[.agg #[.int .i64 a0_0, .int .i64 a0_1, .int .i64 a0_2, .int .i64 a0_3]] w fun e w' => e = .returned (.int .i64 r) ∧ Below w.heap.size w w' := by
  have hu23 := Try.underlying24
  have HB := Aside0.mk (Below.refl w.heap.size w)
  obtain rfl : (if okP a0_0 a0_1 a0_2 a0_3 = true then 0 else 2) = r := by simpa [layout_Check.f] using h
  clear h
  by_cases c0 : a0_0 < 1
  · rw [if_neg (by rw [okP_iff]; omega)]
    go_enter Try.func27, Try.ntmps27
    go_wp2_with (((with_reducible refine gate_dst (N := 1) rfl ?_); refine box_event rfl (N := 1) rfl (cs := #[.int .i64 a0_0, .int .i64 a0_1, .int .i64 a0_2, .int .i64 a0_3]) (t := 24) (by go_simp; try rfl) ?_; intro g1 hg w1 hbox hb; have BKg1 := Aside0.mk (hbox); have GEg1 := Aside0.mk ((by rw [hg]; exact (sZ HB)) : w.heap.size ≤ g1); replace HB := kH HB hb; clear hb hbox hg; obtain ⟨hca_g1_0, hca_g1_1, hca_g1_2, hca_g1_3, hfa_g1_0, hfa_g1_1, hfa_g1_2, hfa_g1_3⟩ := cs4 BKg1.out))
    go_ret
    exact ⟨rfl, HB.out⟩
  by_cases c1 : a0_0 > 12
  · rw [if_neg (by rw [okP_iff]; omega)]
    go_enter Try.func27, Try.ntmps27
    go_wp2_with (((with_reducible refine gate_dst (N := 1) rfl ?_); refine box_event rfl (N := 1) rfl (cs := #[.int .i64 a0_0, .int .i64 a0_1, .int .i64 a0_2, .int .i64 a0_3]) (t := 24) (by go_simp; try rfl) ?_; intro g1 hg w1 hbox hb; have BKg1 := Aside0.mk (hbox); have GEg1 := Aside0.mk ((by rw [hg]; exact (sZ HB)) : w.heap.size ≤ g1); replace HB := kH HB hb; clear hb hbox hg; obtain ⟨hca_g1_0, hca_g1_1, hca_g1_2, hca_g1_3, hfa_g1_0, hfa_g1_1, hfa_g1_2, hfa_g1_3⟩ := cs4 BKg1.out))
    go_ret
    exact ⟨rfl, HB.out⟩
  by_cases c2 : a0_1 < 0
  · rw [if_neg (by rw [okP_iff]; omega)]
    go_enter Try.func27, Try.ntmps27
    go_wp2_with (((with_reducible refine gate_dst (N := 1) rfl ?_); refine box_event rfl (N := 1) rfl (cs := #[.int .i64 a0_0, .int .i64 a0_1, .int .i64 a0_2, .int .i64 a0_3]) (t := 24) (by go_simp; try rfl) ?_; intro g1 hg w1 hbox hb; have BKg1 := Aside0.mk (hbox); have GEg1 := Aside0.mk ((by rw [hg]; exact (sZ HB)) : w.heap.size ≤ g1); replace HB := kH HB hb; clear hb hbox hg; obtain ⟨hca_g1_0, hca_g1_1, hca_g1_2, hca_g1_3, hfa_g1_0, hfa_g1_1, hfa_g1_2, hfa_g1_3⟩ := cs4 BKg1.out))
    go_ret
    exact ⟨rfl, HB.out⟩
  by_cases c3 : a0_1 > 4
  · rw [if_neg (by rw [okP_iff]; omega)]
    go_enter Try.func27, Try.ntmps27
    go_wp2_with (((with_reducible refine gate_dst (N := 1) rfl ?_); refine box_event rfl (N := 1) rfl (cs := #[.int .i64 a0_0, .int .i64 a0_1, .int .i64 a0_2, .int .i64 a0_3]) (t := 24) (by go_simp; try rfl) ?_; intro g1 hg w1 hbox hb; have BKg1 := Aside0.mk (hbox); have GEg1 := Aside0.mk ((by rw [hg]; exact (sZ HB)) : w.heap.size ≤ g1); replace HB := kH HB hb; clear hb hbox hg; obtain ⟨hca_g1_0, hca_g1_1, hca_g1_2, hca_g1_3, hfa_g1_0, hfa_g1_1, hfa_g1_2, hfa_g1_3⟩ := cs4 BKg1.out))
    go_ret
    exact ⟨rfl, HB.out⟩
  by_cases c4 : a0_2 < 8
  · rw [if_neg (by rw [okP_iff]; omega)]
    go_enter Try.func27, Try.ntmps27
    go_wp2_with (((with_reducible refine gate_dst (N := 1) rfl ?_); refine box_event rfl (N := 1) rfl (cs := #[.int .i64 a0_0, .int .i64 a0_1, .int .i64 a0_2, .int .i64 a0_3]) (t := 24) (by go_simp; try rfl) ?_; intro g1 hg w1 hbox hb; have BKg1 := Aside0.mk (hbox); have GEg1 := Aside0.mk ((by rw [hg]; exact (sZ HB)) : w.heap.size ≤ g1); replace HB := kH HB hb; clear hb hbox hg; obtain ⟨hca_g1_0, hca_g1_1, hca_g1_2, hca_g1_3, hfa_g1_0, hfa_g1_1, hfa_g1_2, hfa_g1_3⟩ := cs4 BKg1.out))
    go_ret
    exact ⟨rfl, HB.out⟩
  by_cases c5 : a0_2 > 64
  · rw [if_neg (by rw [okP_iff]; omega)]
    go_enter Try.func27, Try.ntmps27
    go_wp2_with (((with_reducible refine gate_dst (N := 1) rfl ?_); refine box_event rfl (N := 1) rfl (cs := #[.int .i64 a0_0, .int .i64 a0_1, .int .i64 a0_2, .int .i64 a0_3]) (t := 24) (by go_simp; try rfl) ?_; intro g1 hg w1 hbox hb; have BKg1 := Aside0.mk (hbox); have GEg1 := Aside0.mk ((by rw [hg]; exact (sZ HB)) : w.heap.size ≤ g1); replace HB := kH HB hb; clear hb hbox hg; obtain ⟨hca_g1_0, hca_g1_1, hca_g1_2, hca_g1_3, hfa_g1_0, hfa_g1_1, hfa_g1_2, hfa_g1_3⟩ := cs4 BKg1.out))
    go_ret
    exact ⟨rfl, HB.out⟩
  by_cases c6 : a0_3 < 8
  · rw [if_neg (by rw [okP_iff]; omega)]
    go_enter Try.func27, Try.ntmps27
    go_wp2_with (((with_reducible refine gate_dst (N := 1) rfl ?_); refine box_event rfl (N := 1) rfl (cs := #[.int .i64 a0_0, .int .i64 a0_1, .int .i64 a0_2, .int .i64 a0_3]) (t := 24) (by go_simp; try rfl) ?_; intro g1 hg w1 hbox hb; have BKg1 := Aside0.mk (hbox); have GEg1 := Aside0.mk ((by rw [hg]; exact (sZ HB)) : w.heap.size ≤ g1); replace HB := kH HB hb; clear hb hbox hg; obtain ⟨hca_g1_0, hca_g1_1, hca_g1_2, hca_g1_3, hfa_g1_0, hfa_g1_1, hfa_g1_2, hfa_g1_3⟩ := cs4 BKg1.out))
    go_ret
    exact ⟨rfl, HB.out⟩
  by_cases c7 : a0_3 > 256
  · rw [if_neg (by rw [okP_iff]; omega)]
    go_enter Try.func27, Try.ntmps27
    go_wp2_with (((with_reducible refine gate_dst (N := 1) rfl ?_); refine box_event rfl (N := 1) rfl (cs := #[.int .i64 a0_0, .int .i64 a0_1, .int .i64 a0_2, .int .i64 a0_3]) (t := 24) (by go_simp; try rfl) ?_; intro g1 hg w1 hbox hb; have BKg1 := Aside0.mk (hbox); have GEg1 := Aside0.mk ((by rw [hg]; exact (sZ HB)) : w.heap.size ≤ g1); replace HB := kH HB hb; clear hb hbox hg; obtain ⟨hca_g1_0, hca_g1_1, hca_g1_2, hca_g1_3, hfa_g1_0, hfa_g1_1, hfa_g1_2, hfa_g1_3⟩ := cs4 BKg1.out))
    go_ret
    exact ⟨rfl, HB.out⟩
  obtain ⟨ml, mr⟩ := mul_small (show 1 ≤ a0_0 by omega) (show a0_0 ≤ 12 by omega) (show 8 ≤ a0_2 by omega) (show a0_2 ≤ 64 by omega)
  by_cases cm : a0_0 * a0_2 < 32
  · rw [if_neg (by rw [okP_iff]; omega)]
    go_enter Try.func27, Try.ntmps27
    go_wp2_with (((with_reducible refine gate_dst (N := 1) rfl ?_); refine box_event rfl (N := 1) rfl (cs := #[.int .i64 a0_0, .int .i64 a0_1, .int .i64 a0_2, .int .i64 a0_3]) (t := 24) (by go_simp; try rfl) ?_; intro g1 hg w1 hbox hb; have BKg1 := Aside0.mk (hbox); have GEg1 := Aside0.mk ((by rw [hg]; exact (sZ HB)) : w.heap.size ≤ g1); replace HB := kH HB hb; clear hb hbox hg; obtain ⟨hca_g1_0, hca_g1_1, hca_g1_2, hca_g1_3, hfa_g1_0, hfa_g1_1, hfa_g1_2, hfa_g1_3⟩ := cs4 BKg1.out))
    go_ret
    exact ⟨rfl, HB.out⟩
  · rw [if_pos (by rw [okP_iff]; omega)]
    go_enter Try.func27, Try.ntmps27
    go_wp2_with (((with_reducible refine gate_dst (N := 1) rfl ?_); refine box_event rfl (N := 1) rfl (cs := #[.int .i64 a0_0, .int .i64 a0_1, .int .i64 a0_2, .int .i64 a0_3]) (t := 24) (by go_simp; try rfl) ?_; intro g1 hg w1 hbox hb; have BKg1 := Aside0.mk (hbox); have GEg1 := Aside0.mk ((by rw [hg]; exact (sZ HB)) : w.heap.size ≤ g1); replace HB := kH HB hb; clear hb hbox hg; obtain ⟨hca_g1_0, hca_g1_1, hca_g1_2, hca_g1_3, hfa_g1_0, hfa_g1_1, hfa_g1_2, hfa_g1_3⟩ := cs4 BKg1.out))
    go_ret
    exact ⟨rfl, HB.out⟩
set_option maxHeartbeats 8000000 in
set_option maxRecDepth 100000 in
theorem layout_of.bad (F : Value) (a0_0 : Int) (a0_1 : Int) (a0_2 : Int) (a0_3 : Int) (w : World) (hk : okP a0_0 a0_1 a0_2 a0_3 = false) :
    Calls Try.prog 51 #[.agg #[.int .i64 a0_0, .int .i64 a0_1, .int .i64 a0_2, .int .i64 a0_3], F] w fun e w' => e = .returned (.tuple #[.int .i64 0, .int .i64 2]) ∧ Below w.heap.size w w' := by
  have hu23 := Try.underlying24
  have HC := Aside0.mk (show layout_Check.f a0_0 a0_1 a0_2 a0_3 = some 2 by simp [layout_Check.f, hk])
  clear hk
  have HB := Aside0.mk (Below.refl w.heap.size w)
  go_enter Try.func51, Try.ntmps51
  go_wp2_with (first | ((with_reducible refine gate_dst (N := 2) rfl ?_); refine box_event rfl (N := 2) rfl (cs := #[.int .i64 a0_0, .int .i64 a0_1, .int .i64 a0_2, .int .i64 a0_3]) (t := 24) (by go_simp; try rfl) ?_; intro g1 hg w1 hbox hb; have BKg1 := Aside0.mk (hbox); have GEg1 := Aside0.mk ((by rw [hg]; exact (sZ HB)) : w.heap.size ≤ g1); replace HB := kH HB hb; clear hb hbox hg; obtain ⟨hca_g1_0, hca_g1_1, hca_g1_2, hca_g1_3, hfa_g1_0, hfa_g1_1, hfa_g1_2, hfa_g1_3⟩ := cs4 BKg1.out) | (go_at_call 27; refine (layout_Check.calls a0_0 a0_1 a0_2 a0_3 2 _ HC.out).mono ?_; rintro e w2 ⟨rfl, hb⟩; have BK2 := Aside0.mk (blk_below BKg1.out hb); have HB2 := Aside0.mk (below_step HB.out hb); clear hb HB BKg1; have HB := HB2; have BKg1 := BK2; clear HB2 BK2; obtain ⟨hcb_g1_0, hcb_g1_1, hcb_g1_2, hcb_g1_3, hfb_g1_0, hfb_g1_1, hfb_g1_2, hfb_g1_3⟩ := cs4 BKg1.out))
  go_ret2
  exact ⟨rfl, HB.out⟩

def layout_width.f (a0_0 : Int) (a0_1 : Int) (a0_2 : Int) (a0_3 : Int) : Option (Int) := some (wrap64 (a0_0 * a0_2))
set_option maxHeartbeats 8000000 in
set_option maxRecDepth 100000 in
theorem layout_width.calls (a0_0 : Int) (a0_1 : Int) (a0_2 : Int) (a0_3 : Int) (r : Int) (w : World) (h : layout_width.f a0_0 a0_1 a0_2 a0_3 = some r) :
    Calls Try.prog 52 #[.agg #[.int .i64 a0_0, .int .i64 a0_1, .int .i64 a0_2, .int .i64 a0_3]] w fun e w' => e = .returned (.int .i64 r) ∧ Below w.heap.size w w' := by
  have hu24 := Try.underlying24
  have HB := Aside0.mk (Below.refl w.heap.size w)
  have H : (some (wrap64 (a0_0 * a0_2))) = some r := h
  clear h
  obtain rfl := Option.some.inj H
  go_enter Try.func52, Try.ntmps52
  go_wp2_with (first | ((with_reducible refine gate_dst (N := 1) rfl ?_); refine box_event rfl (N := 1) rfl (cs := #[.int .i64 a0_0, .int .i64 a0_1, .int .i64 a0_2, .int .i64 a0_3]) (t := 24) (by go_simp; try rfl) ?_; intro gb102 hg w2 hbox hb; have BK102 := Aside0.mk (hbox); have GW102 := Aside0.mk ((by rw [hg]; exact (sZ HB) : w.heap.size ≤ gb102)); have GE102 := Aside0.mk ((by rw [hg]; exact (sZ HB) : w.heap.size ≤ gb102)); replace HB := kH HB hb; clear hb hbox hg; obtain ⟨hcz3_0, hcz3_1, hcz3_2, hcz3_3, hfz3_0, hfz3_1, hfz3_2, hfz3_3⟩ := cs4 BK102.out))
  go_ret
  exact ⟨by first | rfl | (simp [errW_none, errW_some] <;> rfl) | (simp [*, errW_none, errW_some] <;> rfl), by repeat (first | exact sH HB.out | refine sN (w := w) ?_ | with_reducible refine sG (w := w) ?_ (by assumption))⟩

def layout_leaf.f (a0_0 : Int) (a0_1 : Int) (a0_2 : Int) (a0_3 : Int) : Option (Int) := (layout_width.f a0_0 a0_1 a0_2 a0_3).bind fun t104 => (some (wrap64 (Int.tdiv t104 6)))
set_option maxHeartbeats 8000000 in
set_option maxRecDepth 100000 in
theorem layout_leaf.calls (a0_0 : Int) (a0_1 : Int) (a0_2 : Int) (a0_3 : Int) (r : Int) (w : World) (h : layout_leaf.f a0_0 a0_1 a0_2 a0_3 = some r) :
    Calls Try.prog 54 #[.agg #[.int .i64 a0_0, .int .i64 a0_1, .int .i64 a0_2, .int .i64 a0_3]] w fun e w' => e = .returned (.int .i64 r) ∧ Below w.heap.size w w' := by
  have hu24 := Try.underlying24
  have HB := Aside0.mk (Below.refl w.heap.size w)
  have H : ((layout_width.f a0_0 a0_1 a0_2 a0_3).bind fun t104 => (some (wrap64 (Int.tdiv t104 6)))) = some r := h
  clear h
  replace H := Option.bind_eq_some_iff.mp H
  obtain ⟨t104, A20, H⟩ := H
  try dsimp only at H
  have A2 := Aside0.mk A20
  clear A20
  obtain rfl := Option.some.inj H
  go_enter Try.func54, Try.ntmps54
  go_wp2_with (first | ((with_reducible refine gate_dst (N := 1) rfl ?_); refine box_event rfl (N := 1) rfl (cs := #[.int .i64 a0_0, .int .i64 a0_1, .int .i64 a0_2, .int .i64 a0_3]) (t := 24) (by go_simp; try rfl) ?_; intro gb103 hg w3 hbox hb; have BK103 := Aside0.mk (hbox); have GW103 := Aside0.mk ((by rw [hg]; exact (sZ HB) : w.heap.size ≤ gb103)); have GE103 := Aside0.mk ((by rw [hg]; exact (sZ HB) : w.heap.size ≤ gb103)); replace HB := kH HB hb; clear hb hbox hg; obtain ⟨hcz4_0, hcz4_1, hcz4_2, hcz4_3, hfz4_0, hfz4_1, hfz4_2, hfz4_3⟩ := cs4 BK103.out) | ((with_reducible refine gate_callee (f := 52) rfl ?_); refine goesL_ (some 4) rfl rfl Try.func52 (by kernel_rfl) rfl #[.agg #[.int .i64 a0_0, .int .i64 a0_1, .int .i64 a0_2, .int .i64 a0_3]] rfl (by (try simp only [sM]); first | done | rfl | (simp only [sT]; rfl)) ?_; (with_reducible refine (layout_width.calls a0_0 a0_1 a0_2 a0_3 t104 _ A2.out).mono ?_); rintro e w5 ⟨rfl, hb⟩; refine ⟨_, rfl, ?_⟩; replace BK103 := kB BK103 hb; replace HB := Aside0.mk (below_step (by repeat (first | exact sH HB.out | refine sN (w := w) ?_ | with_reducible refine sG (w := w) ?_ (by assumption))) hb); (try clear hb); (try clear hb2); (try clear hk); (try clear hi)))
  go_ret
  exact ⟨by first | rfl | (simp [errW_none, errW_some] <;> rfl) | (simp [*, errW_none, errW_some] <;> rfl), by repeat (first | exact sH HB.out | refine sN (w := w) ?_ | with_reducible refine sG (w := w) ?_ (by assumption))⟩

set_option maxHeartbeats 8000000 in
set_option maxRecDepth 100000 in
theorem layout_of.leaf (a0_0 : Int) (a0_1 : Int) (a0_2 : Int) (a0_3 : Int) (v : Int) (w : World) (hk : okP a0_0 a0_1 a0_2 a0_3 = true) (hv : layout_leaf.f a0_0 a0_1 a0_2 a0_3 = some v) :
    Calls Try.prog 51 #[.agg #[.int .i64 a0_0, .int .i64 a0_1, .int .i64 a0_2, .int .i64 a0_3], .func (.func 54) #[] #[]] w fun e w' => e = .returned (.tuple #[.int .i64 v, .int .i64 0]) ∧ Below w.heap.size w w' := by
  have hu23 := Try.underlying24
  have HC := Aside0.mk (show layout_Check.f a0_0 a0_1 a0_2 a0_3 = some 0 by simp [layout_Check.f, hk])
  have HV := Aside0.mk hv
  clear hk hv
  have HB := Aside0.mk (Below.refl w.heap.size w)
  go_enter Try.func51, Try.ntmps51
  go_wp2_with (first | ((with_reducible refine gate_dst (N := 2) rfl ?_); refine box_event rfl (N := 2) rfl (cs := #[.int .i64 a0_0, .int .i64 a0_1, .int .i64 a0_2, .int .i64 a0_3]) (t := 24) (by go_simp; try rfl) ?_; intro g1 hg w1 hbox hb; have BKg1 := Aside0.mk (hbox); have GEg1 := Aside0.mk ((by rw [hg]; exact (sZ HB)) : w.heap.size ≤ g1); replace HB := kH HB hb; clear hb hbox hg; obtain ⟨hca_g1_0, hca_g1_1, hca_g1_2, hca_g1_3, hfa_g1_0, hfa_g1_1, hfa_g1_2, hfa_g1_3⟩ := cs4 BKg1.out) | (go_at_call 27; refine (layout_Check.calls a0_0 a0_1 a0_2 a0_3 0 _ HC.out).mono ?_; rintro e w2 ⟨rfl, hb⟩; have BK2 := Aside0.mk (blk_below BKg1.out hb); have HB2 := Aside0.mk (below_step HB.out hb); clear hb HB BKg1; have HB := HB2; have BKg1 := BK2; clear HB2 BK2; obtain ⟨hcb_g1_0, hcb_g1_1, hcb_g1_2, hcb_g1_3, hfb_g1_0, hfb_g1_1, hfb_g1_2, hfb_g1_3⟩ := cs4 BKg1.out) | (go_at_call 54; refine (layout_leaf.calls a0_0 a0_1 a0_2 a0_3 v _ HV.out).mono ?_; rintro e w3 ⟨rfl, hb⟩; have BK2 := Aside0.mk (blk_below BKg1.out hb); have HB2 := Aside0.mk (below_step HB.out hb); clear hb HB BKg1; have HB := HB2; have BKg1 := BK2; clear HB2 BK2))
  go_ret2
  exact ⟨rfl, HB.out⟩
def layout_Leaf.f (a0_0 : Int) (a0_1 : Int) (a0_2 : Int) (a0_3 : Int) : Option (Int × Int) := some (if okP a0_0 a0_1 a0_2 a0_3 = true then (a0_0 * a0_2 / 6, 0) else (0, 2))
theorem layout_leaf.ev (a0_0 : Int) (a0_1 : Int) (a0_2 : Int) (a0_3 : Int) (hk : okP a0_0 a0_1 a0_2 a0_3 = true) : layout_leaf.f a0_0 a0_1 a0_2 a0_3 = some (a0_0 * a0_2 / 6) := by
  obtain ⟨h1, h2, h3, h4, h5, h6, h7, h8, h9⟩ := okP_iff.mp hk
  obtain ⟨ml, mr⟩ := mul_small h1 h2 h5 h6
  have e : wrap64 (a0_0 * a0_2) = a0_0 * a0_2 := by unfold wrap64; omega
  have e3 : Int.tdiv (a0_0 * a0_2) 6 = a0_0 * a0_2 / 6 := Int.tdiv_eq_ediv_of_nonneg (by omega)
  have e4 : wrap64 (a0_0 * a0_2 / 6) = a0_0 * a0_2 / 6 := by unfold wrap64; omega
  simp only [layout_leaf.f, layout_width.f, Option.bind_some, e, e3, e4]
set_option maxHeartbeats 8000000 in
set_option maxRecDepth 100000 in
theorem layout_Leaf.calls (a0_0 : Int) (a0_1 : Int) (a0_2 : Int) (a0_3 : Int) (r1 : Int) (r2 : Int) (w : World) (h : layout_Leaf.f a0_0 a0_1 a0_2 a0_3 = some (r1, r2)) :
    Calls Try.prog 31 #[.agg #[.int .i64 a0_0, .int .i64 a0_1, .int .i64 a0_2, .int .i64 a0_3]] w fun e w' => e = .returned (.tuple #[.int .i64 r1, .int .i64 r2]) ∧ Below w.heap.size w w' := by
  have hu23 := Try.underlying24
  have HB := Aside0.mk (Below.refl w.heap.size w)
  unfold layout_Leaf.f at h
  by_cases hk : okP a0_0 a0_1 a0_2 a0_3 = true
  · rw [if_pos hk] at h
    obtain ⟨rfl, rfl⟩ : a0_0 * a0_2 / 6 = r1 ∧ 0 = r2 := by simpa using h
    have HV := Aside0.mk (layout_leaf.ev a0_0 a0_1 a0_2 a0_3 hk)
    have HK := Aside0.mk hk
    clear hk h
    go_enter Try.func31, Try.ntmps31
    go_wp2_with (first | ((with_reducible refine gate_dst (N := 1) rfl ?_); refine box_event rfl (N := 1) rfl (cs := #[.int .i64 a0_0, .int .i64 a0_1, .int .i64 a0_2, .int .i64 a0_3]) (t := 24) (by go_simp; try rfl) ?_; intro g1 hg w1 hbox hb; have BKg1 := Aside0.mk (hbox); have GEg1 := Aside0.mk ((by rw [hg]; exact (sZ HB)) : w.heap.size ≤ g1); replace HB := kH HB hb; clear hb hbox hg; obtain ⟨hca_g1_0, hca_g1_1, hca_g1_2, hca_g1_3, hfa_g1_0, hfa_g1_1, hfa_g1_2, hfa_g1_3⟩ := cs4 BKg1.out) | (go_at_call 51; refine (layout_of.leaf a0_0 a0_1 a0_2 a0_3 _ _ HK.out HV.out).mono ?_; rintro e w3 ⟨rfl, hb⟩; have BK2 := Aside0.mk (blk_below BKg1.out hb); have HB2 := Aside0.mk (below_step HB.out hb); clear hb HB BKg1; have HB := HB2; have BKg1 := BK2; clear HB2 BK2))
    go_ret2
    exact ⟨rfl, HB.out⟩
  · rw [if_neg hk] at h
    obtain ⟨rfl, rfl⟩ : 0 = r1 ∧ 2 = r2 := by simpa using h
    have HK := Aside0.mk (show okP a0_0 a0_1 a0_2 a0_3 = false by simpa using hk)
    clear hk h
    go_enter Try.func31, Try.ntmps31
    go_wp2_with (first | ((with_reducible refine gate_dst (N := 1) rfl ?_); refine box_event rfl (N := 1) rfl (cs := #[.int .i64 a0_0, .int .i64 a0_1, .int .i64 a0_2, .int .i64 a0_3]) (t := 24) (by go_simp; try rfl) ?_; intro g1 hg w1 hbox hb; have BKg1 := Aside0.mk (hbox); have GEg1 := Aside0.mk ((by rw [hg]; exact (sZ HB)) : w.heap.size ≤ g1); replace HB := kH HB hb; clear hb hbox hg; obtain ⟨hca_g1_0, hca_g1_1, hca_g1_2, hca_g1_3, hfa_g1_0, hfa_g1_1, hfa_g1_2, hfa_g1_3⟩ := cs4 BKg1.out) | (go_at_call 51; refine (layout_of.bad _ a0_0 a0_1 a0_2 a0_3 _ HK.out).mono ?_; rintro e w3 ⟨rfl, hb⟩; have BK2 := Aside0.mk (blk_below BKg1.out hb); have HB2 := Aside0.mk (below_step HB.out hb); clear hb HB BKg1; have HB := HB2; have BKg1 := BK2; clear HB2 BK2))
    go_ret2
    exact ⟨rfl, HB.out⟩

def desc_may.l0 : Nat → List (S27) → Int → Int → Int → Int → Int → Int → Option (Bool)
  | 0, _, _, _, _, _, _, _ => none
  | k + 1, x7, x8, x9, x106000, x106001, x106002, x106003 => if x9 < x8 then (if 0 ≤ x9 then (if x9 < (x7.length : Int) then (if ((rd_T27 x7 x9).f0) < 0 then (some false) else (if ((rd_T27 x7 x9).f0) ≥ x106003 then (some false) else (if ((rd_T27 x7 x9).f1) < 1 then (some false) else (if ((rd_T27 x7 x9).f1) > 1073741824 then (some false) else (desc_may.l0 k x7 x8 (wrap64 (x9 + 1)) x106000 x106001 x106002 x106003))))) else (none)) else (none)) else (some true)
def desc_may.f (k : Nat) (a0_0 : Int) (a0_1 : Int) (a0_2 : Int) (a0_3 : Int) (l1 : List (S27)) : Option (Bool) := desc_may.l0 k l1 (l1.length : Int) 0 a0_0 a0_1 a0_2 a0_3
set_option maxHeartbeats 8000000 in
set_option maxRecDepth 100000 in
theorem desc_may.calls (k : Nat) (a0_0 : Int) (a0_1 : Int) (a0_2 : Int) (a0_3 : Int) (A1 : Option Addr) (c1 : Nat) (l1 : List (S27)) (r : Bool) (w : World) (hr1 : Kd.C k27 w A1 l1.length l1) (hc1 : l1.length ≤ c1) (h : desc_may.f k a0_0 a0_1 a0_2 a0_3 l1 = some r) :
    Calls Try.prog 32 #[.agg #[.int .i64 a0_0, .int .i64 a0_1, .int .i64 a0_2, .int .i64 a0_3], .slice A1 l1.length c1] w fun e w' => e = .returned (.bool r) ∧ Below w.heap.size w w' := by
  have hu24 := Try.underlying24
  have hu27 := Try.underlying27
  have HR1 := Aside0.mk hr1
  have HC1 := Aside0.mk hc1
  clear hr1 hc1
  have HB := Aside0.mk (Below.refl w.heap.size w)
  have H : (desc_may.l0 k l1 (l1.length : Int) 0 a0_0 a0_1 a0_2 a0_3) = some r := h
  clear h
  have H' := Aside0.mk H
  clear H
  go_enter Try.func32, Try.ntmps32
  go_wp2_with (first | ((with_reducible refine gate_dst (N := 2) rfl ?_); refine box_event rfl (N := 2) rfl (cs := #[.int .i64 a0_0, .int .i64 a0_1, .int .i64 a0_2, .int .i64 a0_3]) (t := 24) (by go_simp; try rfl) ?_; intro gb105 hg w3 hbox hb; have BK105 := Aside0.mk (hbox); have GW105 := Aside0.mk ((by rw [hg]; exact (sZ HB) : w.heap.size ≤ gb105)); have GE105 := Aside0.mk ((by rw [hg]; exact (sZ HB) : w.heap.size ≤ gb105)); replace HB := kH HB hb; clear hb hbox hg))
  go_loopg [9] k (fun kq v9 w' => ∃ (x9_1 : Int), v9 = .int .i64 x9_1 ∧ Aside0 (desc_may.l0 kq l1 (l1.length : Int) x9_1 a0_0 a0_1 a0_2 a0_3 = some r) ∧ Aside0 (kq ≤ k) ∧ Aside0 (w'.heap[gb105]? = some (.cells #[.int .i64 a0_0, .int .i64 a0_1, .int .i64 a0_2, .int .i64 a0_3] 24 (0, 0))) ∧ Aside0 (Below w.heap.size w w'))
  case atStart => exact ⟨(0), (by first | rfl | (simp; done) | (simp [*]; done)), H', ⟨Nat.le_refl _⟩, ⟨by (try refine sO ?_); exact BK105.out⟩, ⟨by repeat (first | exact sH HB.out | refine sN (w := w) ?_ | with_reducible refine sG (w := w) ?_ (by assumption))⟩⟩
  case round =>
    clear H'
    try clear c1
    try clear p2
    try clear c3
    obtain ⟨x9_1, rfl, HA, HK1, BK105, HB⟩ := hrel
    cases gk with
    | zero => exact absurd HA.out (by simp [desc_may.l0])
    | succ k1 =>
      have H := HA.out
      clear HA
      simp only [desc_may.l0] at H
      by_cases c4 : x9_1 < (l1.length : Int)
      · rw [if_pos c4] at H
        have c4b0 : decide (x9_1 < (l1.length : Int)) = true := decide_eq_true c4
        clear c4
        by_cases c5 : 0 ≤ x9_1
        · rw [if_pos c5] at H
          have c5b0 : decide (0 ≤ x9_1) = true := decide_eq_true c5
          clear c5
          by_cases c6 : x9_1 < (l1.length : Int)
          · rw [if_pos c6] at H
            have c6b0 : decide (x9_1 < (l1.length : Int)) = true := decide_eq_true c6
            clear c6
            by_cases c7 : ((rd_T27 l1 x9_1).f0) < 0
            · rw [if_pos c7] at H
              have c7b0 : decide (((rd_T27 l1 x9_1).f0) < 0) = true := decide_eq_true c7
              clear c7
              obtain rfl := Option.some.inj H
              have p106 : 0 ≤ (x9_1 : Int) := of_decide_eq_true (by first | (with_reducible assumption) | assumption)
              have q106 : x9_1 < (l1.length : Int) := of_decide_eq_true (by first | (with_reducible assumption) | assumption)
              obtain ⟨ad106, e106, hx106_0, hx106_1⟩ := at_T27 HR1.out x9_1 p106 q106
              cases e106
              replace hx106_0 := (HB.out.cell (World.block_lt_of_cell? w _ hx106_0)).trans hx106_0
              replace hx106_1 := (HB.out.cell (World.block_lt_of_cell? w _ hx106_1)).trans hx106_1
              replace p106 := eq_true p106
              replace q106 := eq_true q106
              go_wp2_with (first | ((with_reducible refine gate_dst (N := 6) rfl ?_); refine box_event rfl (N := 6) rfl (cs := #[.int .i64 0, .int .i64 0]) (t := 27) (by go_simp; try rfl) ?_; intro gb107 hg w8 hbox hb; have BK107 := Aside0.mk (hbox); have GW107 := Aside0.mk ((by rw [hg]; exact (below_size (by repeat (first | exact sH HB.out | refine sN (w := w) ?_ | with_reducible refine sG (w := w) ?_ (by assumption)))) : w.heap.size ≤ gb107)); have GE107 := Aside0.mk ((by rw [hg]; exact (below_size (by repeat (first | exact sH HB.out | refine sN (w := w) ?_ | with_reducible refine sG (w := w) ?_ (by assumption)))) : w.heap.size ≤ gb107)); replace HB := Aside0.mk (below_step (by repeat (first | exact sH HB.out | refine sN (w := w) ?_ | with_reducible refine sG (w := w) ?_ (by assumption))) hb); have NB105_107 := Aside0.mk ((by rw [hg]; exact Nat.ne_of_lt (blk_lt (g := gb105) (o := .cells #[.int .i64 a0_0, .int .i64 a0_1, .int .i64 a0_2, .int .i64 a0_3] 24 (0, 0)) (by first | exact BK105.out | (refine sO ?_; exact BK105.out))) : gb105 ≠ gb107)); have NB107_105 := Aside0.mk ((by rw [hg]; exact Nat.ne_of_gt (blk_lt (g := gb105) (o := .cells #[.int .i64 a0_0, .int .i64 a0_1, .int .i64 a0_2, .int .i64 a0_3] 24 (0, 0)) (by first | exact BK105.out | (refine sO ?_; exact BK105.out))) : gb107 ≠ gb105)); replace BK105 := kB BK105 hb; clear hb hbox hg; have hnb9 := NB107_105.out; have hnc9 := NB105_107.out; obtain ⟨hcz10_0, hcz10_1, hfz10_0, hfz10_1⟩ := cs2 BK107.out))
              go_ret
              exact ⟨by first | rfl | (simp [errW_none, errW_some] <;> rfl) | (simp [*, errW_none, errW_some] <;> rfl), by repeat (first | exact sH HB.out | refine sN (w := w) ?_ | with_reducible refine sG (w := w) ?_ (by assumption))⟩
            · rw [if_neg c7] at H
              have c7b0 : decide (((rd_T27 l1 x9_1).f0) < 0) = false := decide_eq_false c7
              clear c7
              by_cases c11 : ((rd_T27 l1 x9_1).f0) ≥ a0_3
              · rw [if_pos c11] at H
                have c11b0 : decide (a0_3 ≤ ((rd_T27 l1 x9_1).f0)) = true := decide_eq_true c11
                clear c11
                obtain rfl := Option.some.inj H
                have p106 : 0 ≤ (x9_1 : Int) := of_decide_eq_true (by first | (with_reducible assumption) | assumption)
                have q106 : x9_1 < (l1.length : Int) := of_decide_eq_true (by first | (with_reducible assumption) | assumption)
                obtain ⟨ad106, e106, hx106_0, hx106_1⟩ := at_T27 HR1.out x9_1 p106 q106
                cases e106
                replace hx106_0 := (HB.out.cell (World.block_lt_of_cell? w _ hx106_0)).trans hx106_0
                replace hx106_1 := (HB.out.cell (World.block_lt_of_cell? w _ hx106_1)).trans hx106_1
                replace p106 := eq_true p106
                replace q106 := eq_true q106
                go_wp2_with (first | ((with_reducible refine gate_dst (N := 6) rfl ?_); refine box_event rfl (N := 6) rfl (cs := #[.int .i64 0, .int .i64 0]) (t := 27) (by go_simp; try rfl) ?_; intro gb107 hg w12 hbox hb; have BK107 := Aside0.mk (hbox); have GW107 := Aside0.mk ((by rw [hg]; exact (below_size (by repeat (first | exact sH HB.out | refine sN (w := w) ?_ | with_reducible refine sG (w := w) ?_ (by assumption)))) : w.heap.size ≤ gb107)); have GE107 := Aside0.mk ((by rw [hg]; exact (below_size (by repeat (first | exact sH HB.out | refine sN (w := w) ?_ | with_reducible refine sG (w := w) ?_ (by assumption)))) : w.heap.size ≤ gb107)); replace HB := Aside0.mk (below_step (by repeat (first | exact sH HB.out | refine sN (w := w) ?_ | with_reducible refine sG (w := w) ?_ (by assumption))) hb); have NB105_107 := Aside0.mk ((by rw [hg]; exact Nat.ne_of_lt (blk_lt (g := gb105) (o := .cells #[.int .i64 a0_0, .int .i64 a0_1, .int .i64 a0_2, .int .i64 a0_3] 24 (0, 0)) (by first | exact BK105.out | (refine sO ?_; exact BK105.out))) : gb105 ≠ gb107)); have NB107_105 := Aside0.mk ((by rw [hg]; exact Nat.ne_of_gt (blk_lt (g := gb105) (o := .cells #[.int .i64 a0_0, .int .i64 a0_1, .int .i64 a0_2, .int .i64 a0_3] 24 (0, 0)) (by first | exact BK105.out | (refine sO ?_; exact BK105.out))) : gb107 ≠ gb105)); replace BK105 := kB BK105 hb; clear hb hbox hg; have hnb13 := NB107_105.out; have hnc13 := NB105_107.out; obtain ⟨hcz14_0, hcz14_1, hfz14_0, hfz14_1⟩ := cs2 BK107.out; obtain ⟨hcz15_0, hcz15_1, hcz15_2, hcz15_3, hfz15_0, hfz15_1, hfz15_2, hfz15_3⟩ := cs4 BK105.out))
                go_ret
                exact ⟨by first | rfl | (simp [errW_none, errW_some] <;> rfl) | (simp [*, errW_none, errW_some] <;> rfl), by repeat (first | exact sH HB.out | refine sN (w := w) ?_ | with_reducible refine sG (w := w) ?_ (by assumption))⟩
              · rw [if_neg c11] at H
                have c11b0 : decide (a0_3 ≤ ((rd_T27 l1 x9_1).f0)) = false := decide_eq_false c11
                clear c11
                by_cases c16 : ((rd_T27 l1 x9_1).f1) < 1
                · rw [if_pos c16] at H
                  have c16b0 : decide (((rd_T27 l1 x9_1).f1) < 1) = true := decide_eq_true c16
                  clear c16
                  obtain rfl := Option.some.inj H
                  have p106 : 0 ≤ (x9_1 : Int) := of_decide_eq_true (by first | (with_reducible assumption) | assumption)
                  have q106 : x9_1 < (l1.length : Int) := of_decide_eq_true (by first | (with_reducible assumption) | assumption)
                  obtain ⟨ad106, e106, hx106_0, hx106_1⟩ := at_T27 HR1.out x9_1 p106 q106
                  cases e106
                  replace hx106_0 := (HB.out.cell (World.block_lt_of_cell? w _ hx106_0)).trans hx106_0
                  replace hx106_1 := (HB.out.cell (World.block_lt_of_cell? w _ hx106_1)).trans hx106_1
                  replace p106 := eq_true p106
                  replace q106 := eq_true q106
                  go_wp2_with (first | ((with_reducible refine gate_dst (N := 6) rfl ?_); refine box_event rfl (N := 6) rfl (cs := #[.int .i64 0, .int .i64 0]) (t := 27) (by go_simp; try rfl) ?_; intro gb107 hg w17 hbox hb; have BK107 := Aside0.mk (hbox); have GW107 := Aside0.mk ((by rw [hg]; exact (below_size (by repeat (first | exact sH HB.out | refine sN (w := w) ?_ | with_reducible refine sG (w := w) ?_ (by assumption)))) : w.heap.size ≤ gb107)); have GE107 := Aside0.mk ((by rw [hg]; exact (below_size (by repeat (first | exact sH HB.out | refine sN (w := w) ?_ | with_reducible refine sG (w := w) ?_ (by assumption)))) : w.heap.size ≤ gb107)); replace HB := Aside0.mk (below_step (by repeat (first | exact sH HB.out | refine sN (w := w) ?_ | with_reducible refine sG (w := w) ?_ (by assumption))) hb); have NB105_107 := Aside0.mk ((by rw [hg]; exact Nat.ne_of_lt (blk_lt (g := gb105) (o := .cells #[.int .i64 a0_0, .int .i64 a0_1, .int .i64 a0_2, .int .i64 a0_3] 24 (0, 0)) (by first | exact BK105.out | (refine sO ?_; exact BK105.out))) : gb105 ≠ gb107)); have NB107_105 := Aside0.mk ((by rw [hg]; exact Nat.ne_of_gt (blk_lt (g := gb105) (o := .cells #[.int .i64 a0_0, .int .i64 a0_1, .int .i64 a0_2, .int .i64 a0_3] 24 (0, 0)) (by first | exact BK105.out | (refine sO ?_; exact BK105.out))) : gb107 ≠ gb105)); replace BK105 := kB BK105 hb; clear hb hbox hg; have hnb18 := NB107_105.out; have hnc18 := NB105_107.out; obtain ⟨hcz19_0, hcz19_1, hfz19_0, hfz19_1⟩ := cs2 BK107.out; obtain ⟨hcz20_0, hcz20_1, hcz20_2, hcz20_3, hfz20_0, hfz20_1, hfz20_2, hfz20_3⟩ := cs4 BK105.out))
                  go_ret
                  exact ⟨by first | rfl | (simp [errW_none, errW_some] <;> rfl) | (simp [*, errW_none, errW_some] <;> rfl), by repeat (first | exact sH HB.out | refine sN (w := w) ?_ | with_reducible refine sG (w := w) ?_ (by assumption))⟩
                · rw [if_neg c16] at H
                  have c16b0 : decide (((rd_T27 l1 x9_1).f1) < 1) = false := decide_eq_false c16
                  clear c16
                  by_cases c21 : ((rd_T27 l1 x9_1).f1) > 1073741824
                  · rw [if_pos c21] at H
                    have c21b0 : decide (1073741824 < ((rd_T27 l1 x9_1).f1)) = true := decide_eq_true c21
                    clear c21
                    obtain rfl := Option.some.inj H
                    have p106 : 0 ≤ (x9_1 : Int) := of_decide_eq_true (by first | (with_reducible assumption) | assumption)
                    have q106 : x9_1 < (l1.length : Int) := of_decide_eq_true (by first | (with_reducible assumption) | assumption)
                    obtain ⟨ad106, e106, hx106_0, hx106_1⟩ := at_T27 HR1.out x9_1 p106 q106
                    cases e106
                    replace hx106_0 := (HB.out.cell (World.block_lt_of_cell? w _ hx106_0)).trans hx106_0
                    replace hx106_1 := (HB.out.cell (World.block_lt_of_cell? w _ hx106_1)).trans hx106_1
                    replace p106 := eq_true p106
                    replace q106 := eq_true q106
                    go_wp2_with (first | ((with_reducible refine gate_dst (N := 6) rfl ?_); refine box_event rfl (N := 6) rfl (cs := #[.int .i64 0, .int .i64 0]) (t := 27) (by go_simp; try rfl) ?_; intro gb107 hg w22 hbox hb; have BK107 := Aside0.mk (hbox); have GW107 := Aside0.mk ((by rw [hg]; exact (below_size (by repeat (first | exact sH HB.out | refine sN (w := w) ?_ | with_reducible refine sG (w := w) ?_ (by assumption)))) : w.heap.size ≤ gb107)); have GE107 := Aside0.mk ((by rw [hg]; exact (below_size (by repeat (first | exact sH HB.out | refine sN (w := w) ?_ | with_reducible refine sG (w := w) ?_ (by assumption)))) : w.heap.size ≤ gb107)); replace HB := Aside0.mk (below_step (by repeat (first | exact sH HB.out | refine sN (w := w) ?_ | with_reducible refine sG (w := w) ?_ (by assumption))) hb); have NB105_107 := Aside0.mk ((by rw [hg]; exact Nat.ne_of_lt (blk_lt (g := gb105) (o := .cells #[.int .i64 a0_0, .int .i64 a0_1, .int .i64 a0_2, .int .i64 a0_3] 24 (0, 0)) (by first | exact BK105.out | (refine sO ?_; exact BK105.out))) : gb105 ≠ gb107)); have NB107_105 := Aside0.mk ((by rw [hg]; exact Nat.ne_of_gt (blk_lt (g := gb105) (o := .cells #[.int .i64 a0_0, .int .i64 a0_1, .int .i64 a0_2, .int .i64 a0_3] 24 (0, 0)) (by first | exact BK105.out | (refine sO ?_; exact BK105.out))) : gb107 ≠ gb105)); replace BK105 := kB BK105 hb; clear hb hbox hg; have hnb23 := NB107_105.out; have hnc23 := NB105_107.out; obtain ⟨hcz24_0, hcz24_1, hfz24_0, hfz24_1⟩ := cs2 BK107.out; obtain ⟨hcz25_0, hcz25_1, hcz25_2, hcz25_3, hfz25_0, hfz25_1, hfz25_2, hfz25_3⟩ := cs4 BK105.out))
                    go_ret
                    exact ⟨by first | rfl | (simp [errW_none, errW_some] <;> rfl) | (simp [*, errW_none, errW_some] <;> rfl), by repeat (first | exact sH HB.out | refine sN (w := w) ?_ | with_reducible refine sG (w := w) ?_ (by assumption))⟩
                  · rw [if_neg c21] at H
                    have c21b0 : decide (1073741824 < ((rd_T27 l1 x9_1).f1)) = false := decide_eq_false c21
                    clear c21
                    have H' := Aside0.mk H
                    clear H
                    have p106 : 0 ≤ (x9_1 : Int) := of_decide_eq_true (by first | (with_reducible assumption) | assumption)
                    have q106 : x9_1 < (l1.length : Int) := of_decide_eq_true (by first | (with_reducible assumption) | assumption)
                    obtain ⟨ad106, e106, hx106_0, hx106_1⟩ := at_T27 HR1.out x9_1 p106 q106
                    cases e106
                    replace hx106_0 := (HB.out.cell (World.block_lt_of_cell? w _ hx106_0)).trans hx106_0
                    replace hx106_1 := (HB.out.cell (World.block_lt_of_cell? w _ hx106_1)).trans hx106_1
                    replace p106 := eq_true p106
                    replace q106 := eq_true q106
                    go_wp2_with (first | ((with_reducible refine gate_dst (N := 6) rfl ?_); refine box_event rfl (N := 6) rfl (cs := #[.int .i64 0, .int .i64 0]) (t := 27) (by go_simp; try rfl) ?_; intro gb107 hg w26 hbox hb; have BK107 := Aside0.mk (hbox); have GW107 := Aside0.mk ((by rw [hg]; exact (below_size (by repeat (first | exact sH HB.out | refine sN (w := w) ?_ | with_reducible refine sG (w := w) ?_ (by assumption)))) : w.heap.size ≤ gb107)); have GE107 := Aside0.mk ((by rw [hg]; exact (below_size (by repeat (first | exact sH HB.out | refine sN (w := w) ?_ | with_reducible refine sG (w := w) ?_ (by assumption)))) : w.heap.size ≤ gb107)); replace HB := Aside0.mk (below_step (by repeat (first | exact sH HB.out | refine sN (w := w) ?_ | with_reducible refine sG (w := w) ?_ (by assumption))) hb); have NB105_107 := Aside0.mk ((by rw [hg]; exact Nat.ne_of_lt (blk_lt (g := gb105) (o := .cells #[.int .i64 a0_0, .int .i64 a0_1, .int .i64 a0_2, .int .i64 a0_3] 24 (0, 0)) (by first | exact BK105.out | (refine sO ?_; exact BK105.out))) : gb105 ≠ gb107)); have NB107_105 := Aside0.mk ((by rw [hg]; exact Nat.ne_of_gt (blk_lt (g := gb105) (o := .cells #[.int .i64 a0_0, .int .i64 a0_1, .int .i64 a0_2, .int .i64 a0_3] 24 (0, 0)) (by first | exact BK105.out | (refine sO ?_; exact BK105.out))) : gb107 ≠ gb105)); replace BK105 := kB BK105 hb; clear hb hbox hg; have hnb27 := NB107_105.out; have hnc27 := NB105_107.out; obtain ⟨hcz28_0, hcz28_1, hfz28_0, hfz28_1⟩ := cs2 BK107.out; obtain ⟨hcz29_0, hcz29_1, hcz29_2, hcz29_3, hfz29_0, hfz29_1, hfz29_2, hfz29_3⟩ := cs4 BK105.out))
                    go_roundg k1
                    case measure => have := HK1.out; omega
                    case rel => exact ⟨(wrap64 (x9_1 + 1)), (by first | rfl | (simp; done) | (simp [*]; done)), H', ⟨by have := HK1.out; omega⟩, ⟨by (try refine sO ?_); refine blk_far ?_ NB105_107.out _; (try refine sO ?_); refine blk_far ?_ NB105_107.out _; (try refine sO ?_); exact BK105.out⟩, ⟨by repeat (first | exact sH HB.out | refine sN (w := w) ?_ | with_reducible refine sG (w := w) ?_ (by assumption))⟩⟩
          · rw [if_neg c6] at H
            exact absurd H (by simp)
        · rw [if_neg c5] at H
          exact absurd H (by simp)
      · rw [if_neg c4] at H
        have c4b0 : decide (x9_1 < (l1.length : Int)) = false := decide_eq_false c4
        clear c4
        obtain rfl := Option.some.inj H
        go_wp2
        go_ret
        exact ⟨by first | rfl | (simp [errW_none, errW_some] <;> rfl) | (simp [*, errW_none, errW_some] <;> rfl), by repeat (first | exact sH HB.out | refine sN (w := w) ?_ | with_reducible refine sG (w := w) ?_ (by assumption))⟩

set_option maxHeartbeats 8000000 in
set_option maxRecDepth 100000 in
theorem layout_of.width (a0_0 : Int) (a0_1 : Int) (a0_2 : Int) (a0_3 : Int) (v : Int) (w : World) (hk : okP a0_0 a0_1 a0_2 a0_3 = true) (hv : layout_width.f a0_0 a0_1 a0_2 a0_3 = some v) :
    Calls Try.prog 51 #[.agg #[.int .i64 a0_0, .int .i64 a0_1, .int .i64 a0_2, .int .i64 a0_3], .func (.func 52) #[] #[]] w fun e w' => e = .returned (.tuple #[.int .i64 v, .int .i64 0]) ∧ Below w.heap.size w w' := by
  have hu23 := Try.underlying24
  have HC := Aside0.mk (show layout_Check.f a0_0 a0_1 a0_2 a0_3 = some 0 by simp [layout_Check.f, hk])
  have HV := Aside0.mk hv
  clear hk hv
  have HB := Aside0.mk (Below.refl w.heap.size w)
  go_enter Try.func51, Try.ntmps51
  go_wp2_with (first | ((with_reducible refine gate_dst (N := 2) rfl ?_); refine box_event rfl (N := 2) rfl (cs := #[.int .i64 a0_0, .int .i64 a0_1, .int .i64 a0_2, .int .i64 a0_3]) (t := 24) (by go_simp; try rfl) ?_; intro g1 hg w1 hbox hb; have BKg1 := Aside0.mk (hbox); have GEg1 := Aside0.mk ((by rw [hg]; exact (sZ HB)) : w.heap.size ≤ g1); replace HB := kH HB hb; clear hb hbox hg; obtain ⟨hca_g1_0, hca_g1_1, hca_g1_2, hca_g1_3, hfa_g1_0, hfa_g1_1, hfa_g1_2, hfa_g1_3⟩ := cs4 BKg1.out) | (go_at_call 27; refine (layout_Check.calls a0_0 a0_1 a0_2 a0_3 0 _ HC.out).mono ?_; rintro e w2 ⟨rfl, hb⟩; have BK2 := Aside0.mk (blk_below BKg1.out hb); have HB2 := Aside0.mk (below_step HB.out hb); clear hb HB BKg1; have HB := HB2; have BKg1 := BK2; clear HB2 BK2; obtain ⟨hcb_g1_0, hcb_g1_1, hcb_g1_2, hcb_g1_3, hfb_g1_0, hfb_g1_1, hfb_g1_2, hfb_g1_3⟩ := cs4 BKg1.out) | (go_at_call 52; refine (layout_width.calls a0_0 a0_1 a0_2 a0_3 v _ HV.out).mono ?_; rintro e w3 ⟨rfl, hb⟩; have BK2 := Aside0.mk (blk_below BKg1.out hb); have HB2 := Aside0.mk (below_step HB.out hb); clear hb HB BKg1; have HB := HB2; have BKg1 := BK2; clear HB2 BK2))
  go_ret2
  exact ⟨rfl, HB.out⟩
def layout_Width.f (a0_0 : Int) (a0_1 : Int) (a0_2 : Int) (a0_3 : Int) : Option (Int × Int) := some (if okP a0_0 a0_1 a0_2 a0_3 = true then (a0_0 * a0_2, 0) else (0, 2))
theorem layout_width.ev (a0_0 : Int) (a0_1 : Int) (a0_2 : Int) (a0_3 : Int) (hk : okP a0_0 a0_1 a0_2 a0_3 = true) : layout_width.f a0_0 a0_1 a0_2 a0_3 = some (a0_0 * a0_2) := by
  obtain ⟨h1, h2, h3, h4, h5, h6, h7, h8, h9⟩ := okP_iff.mp hk
  obtain ⟨ml, mr⟩ := mul_small h1 h2 h5 h6
  have e : wrap64 (a0_0 * a0_2) = a0_0 * a0_2 := by unfold wrap64; omega
  simp only [layout_width.f, e]
set_option maxHeartbeats 8000000 in
set_option maxRecDepth 100000 in
theorem layout_Width.calls (a0_0 : Int) (a0_1 : Int) (a0_2 : Int) (a0_3 : Int) (r1 : Int) (r2 : Int) (w : World) (h : layout_Width.f a0_0 a0_1 a0_2 a0_3 = some (r1, r2)) :
    Calls Try.prog 26 #[.agg #[.int .i64 a0_0, .int .i64 a0_1, .int .i64 a0_2, .int .i64 a0_3]] w fun e w' => e = .returned (.tuple #[.int .i64 r1, .int .i64 r2]) ∧ Below w.heap.size w w' := by
  have hu23 := Try.underlying24
  have HB := Aside0.mk (Below.refl w.heap.size w)
  unfold layout_Width.f at h
  by_cases hk : okP a0_0 a0_1 a0_2 a0_3 = true
  · rw [if_pos hk] at h
    obtain ⟨rfl, rfl⟩ : a0_0 * a0_2 = r1 ∧ 0 = r2 := by simpa using h
    have HV := Aside0.mk (layout_width.ev a0_0 a0_1 a0_2 a0_3 hk)
    have HK := Aside0.mk hk
    clear hk h
    go_enter Try.func26, Try.ntmps26
    go_wp2_with (first | ((with_reducible refine gate_dst (N := 1) rfl ?_); refine box_event rfl (N := 1) rfl (cs := #[.int .i64 a0_0, .int .i64 a0_1, .int .i64 a0_2, .int .i64 a0_3]) (t := 24) (by go_simp; try rfl) ?_; intro g1 hg w1 hbox hb; have BKg1 := Aside0.mk (hbox); have GEg1 := Aside0.mk ((by rw [hg]; exact (sZ HB)) : w.heap.size ≤ g1); replace HB := kH HB hb; clear hb hbox hg; obtain ⟨hca_g1_0, hca_g1_1, hca_g1_2, hca_g1_3, hfa_g1_0, hfa_g1_1, hfa_g1_2, hfa_g1_3⟩ := cs4 BKg1.out) | (go_at_call 51; refine (layout_of.width a0_0 a0_1 a0_2 a0_3 _ _ HK.out HV.out).mono ?_; rintro e w3 ⟨rfl, hb⟩; have BK2 := Aside0.mk (blk_below BKg1.out hb); have HB2 := Aside0.mk (below_step HB.out hb); clear hb HB BKg1; have HB := HB2; have BKg1 := BK2; clear HB2 BK2))
    go_ret2
    exact ⟨rfl, HB.out⟩
  · rw [if_neg hk] at h
    obtain ⟨rfl, rfl⟩ : 0 = r1 ∧ 2 = r2 := by simpa using h
    have HK := Aside0.mk (show okP a0_0 a0_1 a0_2 a0_3 = false by simpa using hk)
    clear hk h
    go_enter Try.func26, Try.ntmps26
    go_wp2_with (first | ((with_reducible refine gate_dst (N := 1) rfl ?_); refine box_event rfl (N := 1) rfl (cs := #[.int .i64 a0_0, .int .i64 a0_1, .int .i64 a0_2, .int .i64 a0_3]) (t := 24) (by go_simp; try rfl) ?_; intro g1 hg w1 hbox hb; have BKg1 := Aside0.mk (hbox); have GEg1 := Aside0.mk ((by rw [hg]; exact (sZ HB)) : w.heap.size ≤ g1); replace HB := kH HB hb; clear hb hbox hg; obtain ⟨hca_g1_0, hca_g1_1, hca_g1_2, hca_g1_3, hfa_g1_0, hfa_g1_1, hfa_g1_2, hfa_g1_3⟩ := cs4 BKg1.out) | (go_at_call 51; refine (layout_of.bad _ a0_0 a0_1 a0_2 a0_3 _ HK.out).mono ?_; rintro e w3 ⟨rfl, hb⟩; have BK2 := Aside0.mk (blk_below BKg1.out hb); have HB2 := Aside0.mk (below_step HB.out hb); clear hb HB BKg1; have HB := HB2; have BKg1 := BK2; clear HB2 BK2))
    go_ret2
    exact ⟨rfl, HB.out⟩

/-- Bytes, and 0 up to a width. -/
def wideL (n : Nat) (l : List Int) : List Int := l.take (min l.length n) ++ (List.replicate n 0).drop (min l.length n)
theorem below_all {w W : World} (h : Below w.heap.size w W) : Below w.heap.size w W := h
set_option maxHeartbeats 8000000 in
set_option maxRecDepth 100000 in
theorem desc_wide.main (a0_0 a0_1 a0_2 a0_3 n : Int) (A1 : Option Addr) (c1 : Nat) (l1 : List Int) (w : World) (hr1 : Kd.C (Kd.int .u8) w A1 l1.length l1) (hc1 : l1.length ≤ c1) (hv : layout_Width.f a0_0 a0_1 a0_2 a0_3 = some (n, 0)) (h0 : 0 ≤ n) (h1 : n ≤ 1000) :
    Calls Try.prog 33 #[.agg #[.int .i64 a0_0, .int .i64 a0_1, .int .i64 a0_2, .int .i64 a0_3], .slice A1 l1.length c1] w fun e w' => ∃ v0_ : Value, e = .returned (.tuple #[v0_, .int .i64 0]) ∧ Kd.R (Kd.int .u8) 5 w' w.heap.size (fun _ => True) v0_ (wideL n.toNat l1) ∧ Below w.heap.size w w' := by
  have hu := Try.underlying24
  have HB := Aside0.mk (Below.refl w.heap.size w)
  have HV := Aside0.mk hv
  have NZ := Aside0.mk h0
  have NB := Aside0.mk (show n.toNat ≤ 1000 by omega)
  have HR := Aside0.mk hr1
  clear hv h0 h1 hr1
  go_enter Try.func33, Try.ntmps33
  go_wp2_with (first | ((with_reducible refine gate_dst (N := 2) rfl ?_); refine box_event rfl (N := 2) rfl (cs := #[.int .i64 a0_0, .int .i64 a0_1, .int .i64 a0_2, .int .i64 a0_3]) (t := 24) (by go_simp; try rfl) ?_; intro g1 hg w1 hbox hb; have n2_ := Aside0.mk ((by rw [hg]; exact (sZ HB)) : w.heap.size ≤ g1); have n0_ := Aside0.mk (below_step (sH HB.out) hb); clear HB; have HB := n0_; clear n0_; have BKg1 := Aside0.mk hbox; have GEg1 := n2_; clear n2_ hb hbox hg; obtain ⟨hcg1_0, hcg1_1, hcg1_2, hcg1_3, -, -, -, -⟩ := cs4 BKg1.out) | (go_at_call 26; (with_reducible refine (layout_Width.calls a0_0 a0_1 a0_2 a0_3 n 0 _ HV.out).mono ?_); rintro e w2 ⟨rfl, hb⟩; replace HB := kH HB hb; have n1_ := Aside0.mk (blk_below BKg1.out hb); clear BKg1; have BKg1 := n1_; clear n1_; clear hb; obtain ⟨hcg1_0, hcg1_1, hcg1_2, hcg1_3, -, -, -, -⟩ := cs4 BKg1.out) | ((with_reducible refine gate_dst (N := 18) rfl ?_); refine Kd.R_make (Kd.int .u8) _ 5 rfl (N := 18) rfl 29 _ _ rfl n rfl rfl Try.underlying29 (.int .u8 0) 1 info5 rfl (by decide) (by omega) 0 (ok := fun _ => True) (okp := fun _ => True) rfl (fun _ hk => hk) trivial NZ.out (by have := NB.out; omega) (Below.refl _ _) (Nat.le_refl _) ?_; intro v w5 ho hb hg_ hnew_; clear hg_ hnew_; have HO := Aside0.mk (Kd.R_lower ho HB.out.size); have n0_ := Aside0.mk (below_step HB.out hb); have BK2 := Aside0.mk (blk_below BKg1.out hb); clear HB BKg1; have HB := n0_; have BKg1 := BK2; clear n0_ BK2 hb ho) | (refine Kd.R_copy (enc := Value.int .u8) (h1 := fun _ => rfl) (0 : Int) (w0 := w) w.heap.size rfl (.tmp 19) (.tmp 20) 29 29 5 rfl Try.underlying29 (by kernel_rfl) v _ l1 A1 l1.length c1 (fun _ => True) rfl rfl HO.out (Kd.C_below HR.out (below_all HB.out)) HB.out HB.out.size ?_; intro w6 ho hb hg; clear hg HB HO; have HB := Aside0.mk hb; have HO := Aside0.mk ho; clear ho hb))
  go_ret2
  refine ⟨_, rfl, ?_, HB.out⟩
  have h := HO.out
  rw [List.length_replicate] at h
  exact h
def desc_wide.f (a0_0 : Int) (a0_1 : Int) (a0_2 : Int) (a0_3 : Int) (l1 : List Int) : Option (List Int × Int) := some (if okP a0_0 a0_1 a0_2 a0_3 = true then (wideL (a0_0 * a0_2).toNat l1, 0) else ([], 2))
set_option maxHeartbeats 8000000 in
set_option maxRecDepth 100000 in
theorem desc_wide.calls (a0_0 : Int) (a0_1 : Int) (a0_2 : Int) (a0_3 : Int) (A1 : Option Addr) (c1 : Nat) (l1 : List Int) (r1 : List Int) (r2 : Int) (w : World) (hr1 : Kd.C (Kd.int .u8) w A1 l1.length l1) (hc1 : l1.length ≤ c1) (h : desc_wide.f a0_0 a0_1 a0_2 a0_3 l1 = some (r1, r2)) :
    Calls Try.prog 33 #[.agg #[.int .i64 a0_0, .int .i64 a0_1, .int .i64 a0_2, .int .i64 a0_3], .slice A1 l1.length c1] w fun e w' => ∃ v0_ : Value, e = .returned (.tuple #[v0_, .int .i64 r2]) ∧ Kd.R (Kd.int .u8) 5 w' w.heap.size (fun _ => True) v0_ r1 ∧ Below w.heap.size w w' := by
  unfold desc_wide.f at h
  by_cases hk : okP a0_0 a0_1 a0_2 a0_3 = true
  · rw [if_pos hk] at h
    obtain ⟨rfl, rfl⟩ : wideL (a0_0 * a0_2).toNat l1 = r1 ∧ 0 = r2 := by simpa using h
    obtain ⟨o1, o2, o3, o4, o5, o6, o7, o8, o9⟩ := okP_iff.mp hk
    obtain ⟨ml, mr⟩ := mul_small o1 o2 o5 o6
    exact desc_wide.main _ _ _ _ _ _ _ _ _ hr1 hc1 (show layout_Width.f a0_0 a0_1 a0_2 a0_3 = some (a0_0 * a0_2, 0) by simp [layout_Width.f, hk]) (by omega) (by omega)
  · rw [if_neg hk] at h
    obtain ⟨rfl, rfl⟩ : [] = r1 ∧ 2 = r2 := by simpa using h
    have hu := Try.underlying24
    have HB := Aside0.mk (Below.refl w.heap.size w)
    have HV := Aside0.mk (show layout_Width.f a0_0 a0_1 a0_2 a0_3 = some (0, 2) by simp [layout_Width.f, hk])
    clear hk h hr1 hc1
    go_enter Try.func33, Try.ntmps33
    go_wp2_with (first | ((with_reducible refine gate_dst (N := 2) rfl ?_); refine box_event rfl (N := 2) rfl (cs := #[.int .i64 a0_0, .int .i64 a0_1, .int .i64 a0_2, .int .i64 a0_3]) (t := 24) (by go_simp; try rfl) ?_; intro g1 hg w1 hbox hb; have n2_ := Aside0.mk ((by rw [hg]; exact (sZ HB)) : w.heap.size ≤ g1); have n0_ := Aside0.mk (below_step (sH HB.out) hb); clear HB; have HB := n0_; clear n0_; have BKg1 := Aside0.mk hbox; have GEg1 := n2_; clear n2_ hb hbox hg; obtain ⟨hcg1_0, hcg1_1, hcg1_2, hcg1_3, -, -, -, -⟩ := cs4 BKg1.out) | (go_at_call 26; (with_reducible refine (layout_Width.calls a0_0 a0_1 a0_2 a0_3 0 2 _ HV.out).mono ?_); rintro e w2 ⟨rfl, hb⟩; replace HB := kH HB hb; have n1_ := Aside0.mk (blk_below BKg1.out hb); clear BKg1; have BKg1 := n1_; clear n1_; clear hb; obtain ⟨hcg1_0, hcg1_1, hcg1_2, hcg1_3, -, -, -, -⟩ := cs4 BKg1.out))
    go_ret2
    exact ⟨_, rfl, Kd.R_nil _ _ _ _ _, HB.out⟩

def desc_told.l0 : Nat → List Int → Int → Int → Option (List Int)
  | 0, _, _, _ => none
  | k + 1, x0, x1, x7 => if x7 ≥ 0 then (if 0 ≤ (wrap64 (8 * x7)) then (if x0.length < 140737488355328 then (desc_told.l0 k (x0 ++ [(shr .i64 x1 (wrap64 (8 * x7))) % 256]) x1 (wrap64 (x7 - 1))) else (none)) else (none)) else (some x0)
def desc_told.f (k : Nat) (l0 : List Int) (a1 : Int) (a2 : Int) : Option (List Int) := desc_told.l0 k l0 a1 (wrap64 (a2 - 1))
set_option maxHeartbeats 8000000 in
set_option maxRecDepth 100000 in
theorem desc_told.calls (k : Nat) (P0_ : Nat → Prop) (u9000_ : Value) (l0 : List Int) (a1 : Int) (a2 : Int) (r : List Int) (w0 w : World) (hB : Below w0.heap.size w0 w) (ho0 : Kd.R (Kd.int .u8) 5 w w0.heap.size P0_ u9000_ l0) (h : desc_told.f k l0 a1 a2 = some r) :
    Calls Try.prog 38 #[u9000_, .int .i64 a1, .int .i64 a2] w fun e w' => ∃ v0_ : Value, e = .returned (v0_) ∧ Kd.R (Kd.int .u8) 5 w' w0.heap.size (fun k_ => (P0_ k_ ∨ w.heap.size ≤ k_)) v0_ r ∧ Below w0.heap.size w0 w' ∧ Kept w w' (fun k_ => P0_ k_) := by
  have HO0 := Aside0.mk (show Kd.R (Kd.int .u8) 5 w w0.heap.size (fun k_ => (P0_ k_ ∨ w.heap.size ≤ k_)) u9000_ l0 from Kd.R_mono ho0 (fun k_ hk => (.inl hk)))
  have HK := Aside0.mk (Kept.refl w (fun k_ => P0_ k_))
  have HW0 := Aside0.mk hB.size
  have HB := Aside0.mk hB
  clear hB
  have H : (desc_told.l0 k l0 a1 (wrap64 (a2 - 1))) = some r := h
  clear h
  have H' := Aside0.mk H
  clear H
  go_enter Try.func38, Try.ntmps38
  go_wp2
  go_loopg [0, 7] k (fun kq v0 v7 w' => ∃ (x0_1 : List Int) (x7_1 : Int), v7 = .int .i64 x7_1 ∧ Aside0 (desc_told.l0 kq x0_1 a1 x7_1 = some r) ∧ Aside0 (kq ≤ k) ∧ Aside0 (Kd.R (Kd.int .u8) 5 w' w0.heap.size (fun k_ => (P0_ k_ ∨ w.heap.size ≤ k_)) v0 x0_1) ∧ Aside0 (Kept w w' (fun k_ => P0_ k_)) ∧ Aside0 (Below w0.heap.size w0 w'))
  case atStart => exact ⟨(l0), (wrap64 (a2 - 1)), (by first | rfl | (simp; done) | (simp [*]; done)), H', ⟨Nat.le_refl _⟩, ⟨by (with_reducible repeat (first | apply Kd.R_alloc | apply Kd.R_drewN | apply Kd.R_drew)); exact HO0.out⟩, ⟨by repeat (first | (with_reducible first | exact HK.out | apply Kept.alloc | apply Kept.drewN | apply Kept.drew) | exact HK.out)⟩, ⟨by exact sH HB.out⟩⟩
  case round =>
    clear H'
    try clear p2
    try clear c3
    obtain ⟨x0_1, x7_1, rfl, HA, HK1, HO_0, HK, HB⟩ := hrel
    cases gk with
    | zero => exact absurd HA.out (by simp [desc_told.l0])
    | succ k1 =>
      have H := HA.out
      clear HA
      simp only [desc_told.l0] at H
      by_cases c4 : x7_1 ≥ 0
      · rw [if_pos c4] at H
        have c4b0 : decide (0 ≤ x7_1) = true := decide_eq_true c4
        clear c4
        obtain ⟨ji5, hji5⟩ : ∃ j_ : Int, (wrap64 (8 * x7_1)) = j_ := ⟨_, rfl⟩
        replace H : (if 0 ≤ (ji5) then (if x0_1.length < 140737488355328 then (desc_told.l0 k1 (x0_1 ++ [(shr .i64 a1 (ji5)) % 256]) a1 (wrap64 (x7_1 - 1))) else (none)) else (none)) = some r := by first | (rw [hji5] at H; exact H) | (simp only [hji5] at H ⊢; exact H)
        have hji5w : (IntKind.i64.wrap (8 * x7_1)) = ji5 := (i64_w _).trans hji5
        by_cases c6 : 0 ≤ (ji5)
        · rw [if_pos c6] at H
          have c6b0 := eq_true c6
          have c6b1 : decide (0 ≤ (ji5)) = true := decide_eq_true c6
          clear c6
          obtain ⟨ji7, hji7⟩ : ∃ j_ : Int, (shr .i64 a1 (ji5)) = j_ := ⟨_, rfl⟩
          replace H : (if x0_1.length < 140737488355328 then (desc_told.l0 k1 (x0_1 ++ [(ji7) % 256]) a1 (wrap64 (x7_1 - 1))) else (none)) = some r := by first | (rw [hji7] at H; exact H) | (simp only [hji7] at H ⊢; exact H)
          have hji7_ : (a1 / 2 ^ min (ji5).toNat 64) = ji7 := hji7
          have hji7z : (ji5) ≤ 64 → (a1 / 2 ^ (ji5).toNat) = ji7 := shr_small hji7
          by_cases c8 : x0_1.length < 140737488355328
          · rw [if_pos c8] at H
            have LMc8 := Aside0.mk c8
            clear c8
            obtain ⟨y108, hy108⟩ : ∃ y_ : List Int, y_ = (x0_1 ++ [(ji7) % 256]) := ⟨_, rfl⟩
            replace H : (desc_told.l0 k1 y108 a1 (wrap64 (x7_1 - 1))) = some r := by first | (rw [hy108]; with_reducible exact H) | (have H2_ := (Option.bind_some _ _).symm.trans H; rw [hy108]; with_reducible exact H2_) | (have H2_ := (Option.bind_some _ _).symm.trans H; with_reducible exact H2_) | with_reducible exact H | (rw [hy108]; exact H) | exact H
            have Ny108 := Aside0.mk hy108
            clear hy108
            have H' := Aside0.mk H
            clear H
            go_wp2_with (first | ((with_reducible refine gate_builtin (b := .append) (xs := #[.tmp 14, .tmp 20]) rfl ?_); at_builtin; refine Kd.R_append (Kd.int .u8) (w0 := w0) w0.heap.size rfl (.tmp 14) (.tmp 20) 29 5 (.int .u8 0) 1 rfl Try.underlying29 info5 rfl (by decide) (by omega) u0 x0_1 ((ji7) % 256) [.int .u8 ((ji7) % 256)] (fun k_ => (P0_ k_ ∨ w.heap.size ≤ k_)) (fun _ => False) rfl rfl ?aP (fun _ hk => hk.elim) ?aF ?aO ?aB ?aS ?aL ?_; (case aP => exact rfl); (case aB => exact (sH HB.out)); (case aF => exact (fun k_ hk => (.inr (Nat.le_trans (by first | exact HK.out.1 | exact (show Kept w _ (fun k_ => P0_ k_) from by repeat (first | (with_reducible first | exact HK.out | apply Kept.alloc | apply Kept.drewN | apply Kept.drew) | exact HK.out)).1) hk)))); (case aO => exact (sR HO_0.out)); (case aS => exact (sZ HB)); (case aL => have := LMc8.out; omega); intro v109 w9 ho hb hg hat; rw [← Ny108.out] at ho; have n0_ := Aside0.mk (hb); have n1_ := Aside0.mk (Kept.of_grown (S := (fun k_ => P0_ k_)) hg (by repeat (first | (with_reducible first | exact HK.out | apply Kept.alloc | apply Kept.drewN | apply Kept.drew) | exact HK.out)) (fun k_ e_ => (HO_0.out.1 k_ e_))); have n2_ := Aside0.mk (ho); clear HB; clear HK; clear HO_0; have HB := n0_; have HK := n1_; have HO110 := n2_; clear n0_ n1_ n2_; clear ho hb hg hat))
            go_roundg k1
            case measure => have := HK1.out; omega
            case rel => exact ⟨(y108), (wrap64 (x7_1 - 1)), (by first | rfl | (simp; done) | (simp [*]; done)), H', ⟨by have := HK1.out; omega⟩, ⟨by (with_reducible repeat (first | apply Kd.R_alloc | apply Kd.R_drewN | apply Kd.R_drew)); exact HO110.out⟩, ⟨by repeat (first | (with_reducible first | exact HK.out | apply Kept.alloc | apply Kept.drewN | apply Kept.drew) | exact HK.out)⟩, ⟨by exact sH HB.out⟩⟩
          · rw [if_neg c8] at H
            exact absurd H (by simp)
        · rw [if_neg c6] at H
          exact absurd H (by simp)
      · rw [if_neg c4] at H
        have c4b0 : decide (0 ≤ x7_1) = false := decide_eq_false c4
        clear c4
        obtain rfl := Option.some.inj H
        go_wp2
        go_ret
        exact ⟨_, by first | rfl | (simp [errW_none, errW_some] <;> rfl) | (simp [*, errW_none, errW_some] <;> rfl), by (with_reducible repeat (first | apply Kd.R_alloc | apply Kd.R_drewN | apply Kd.R_drew)); exact HO_0.out, by exact sH HB.out, by repeat (first | (with_reducible first | exact HK.out | apply Kept.alloc | apply Kept.drewN | apply Kept.drew) | exact HK.out)⟩

def desc_add.l0 : Nat → List Int → List (S27) → Int → Int → Option (List Int)
  | 0, _, _, _, _ => none
  | k + 1, x0, x7, x8, x9 => if x9 < x8 then (if 0 ≤ x9 then (if x9 < (x7.length : Int) then ((desc_told.f k x0 ((rd_T27 x7 x9).f0) 2).bind fun t113 => ((desc_told.f k t113 ((rd_T27 x7 x9).f1) 4).bind fun t116 => (desc_add.l0 k t116 x7 x8 (wrap64 (x9 + 1))))) else (none)) else (none)) else (some x0)
def desc_add.f (k : Nat) (l0 : List Int) (l1 : List (S27)) : Option (List Int) := desc_add.l0 k l0 l1 (l1.length : Int) 0
set_option maxHeartbeats 8000000 in
set_option maxRecDepth 100000 in
theorem desc_add.calls (k : Nat) (P0_ : Nat → Prop) (u9000_ : Value) (l0 : List Int) (A1 : Option Addr) (c1 : Nat) (l1 : List (S27)) (r : List Int) (w0 w : World) (hB : Below w0.heap.size w0 w) (ho0 : Kd.R (Kd.int .u8) 5 w w0.heap.size P0_ u9000_ l0) (hr1 : ∀ W_, Kept w W_ (fun k_ => P0_ k_) → Kd.C k27 W_ A1 l1.length l1) (hc1 : l1.length ≤ c1) (h : desc_add.f k l0 l1 = some r) :
    Calls Try.prog 34 #[u9000_, .slice A1 l1.length c1] w fun e w' => ∃ v0_ : Value, e = .returned (v0_) ∧ Kd.R (Kd.int .u8) 5 w' w0.heap.size (fun k_ => (P0_ k_ ∨ w.heap.size ≤ k_)) v0_ r ∧ Below w0.heap.size w0 w' ∧ Kept w w' (fun k_ => P0_ k_) := by
  have hu27 := Try.underlying27
  have HO0 := Aside0.mk (show Kd.R (Kd.int .u8) 5 w w0.heap.size (fun k_ => (P0_ k_ ∨ w.heap.size ≤ k_)) u9000_ l0 from Kd.R_mono ho0 (fun k_ hk => (.inl hk)))
  have HR1 := Aside0.mk hr1
  have HC1 := Aside0.mk hc1
  clear hr1 hc1
  have HK := Aside0.mk (Kept.refl w (fun k_ => P0_ k_))
  have HW0 := Aside0.mk hB.size
  have HB := Aside0.mk hB
  clear hB
  have H : (desc_add.l0 k l0 l1 (l1.length : Int) 0) = some r := h
  clear h
  have H' := Aside0.mk H
  clear H
  go_enter Try.func34, Try.ntmps34
  go_wp2
  go_loopg [0, 9] k (fun kq v0 v9 w' => ∃ (x0_1 : List Int) (x9_1 : Int), v9 = .int .i64 x9_1 ∧ Aside0 (desc_add.l0 kq x0_1 l1 (l1.length : Int) x9_1 = some r) ∧ Aside0 (kq ≤ k) ∧ Aside0 (Kd.R (Kd.int .u8) 5 w' w0.heap.size (fun k_ => (P0_ k_ ∨ w.heap.size ≤ k_)) v0 x0_1) ∧ Aside0 (Kept w w' (fun k_ => P0_ k_)) ∧ Aside0 (Below w0.heap.size w0 w'))
  case atStart => exact ⟨(l0), (0), (by first | rfl | (simp; done) | (simp [*]; done)), H', ⟨Nat.le_refl _⟩, ⟨by (with_reducible repeat (first | apply Kd.R_alloc | apply Kd.R_drewN | apply Kd.R_drew)); exact HO0.out⟩, ⟨by repeat (first | (with_reducible first | exact HK.out | apply Kept.alloc | apply Kept.drewN | apply Kept.drew) | exact HK.out)⟩, ⟨by exact sH HB.out⟩⟩
  case round =>
    clear H'
    try clear c1
    try clear p2
    obtain ⟨x0_1, x9_1, rfl, HA, HK1, HO_0, HK, HB⟩ := hrel
    cases gk with
    | zero => exact absurd HA.out (by simp [desc_add.l0])
    | succ k1 =>
      have H := HA.out
      clear HA
      simp only [desc_add.l0] at H
      by_cases c3 : x9_1 < (l1.length : Int)
      · rw [if_pos c3] at H
        have c3b0 : decide (x9_1 < (l1.length : Int)) = true := decide_eq_true c3
        clear c3
        by_cases c4 : 0 ≤ x9_1
        · rw [if_pos c4] at H
          have c4b0 : decide (0 ≤ x9_1) = true := decide_eq_true c4
          clear c4
          by_cases c5 : x9_1 < (l1.length : Int)
          · rw [if_pos c5] at H
            have c5b0 : decide (x9_1 < (l1.length : Int)) = true := decide_eq_true c5
            clear c5
            replace H := Option.bind_eq_some_iff.mp H
            obtain ⟨t113, A60, H⟩ := H
            try dsimp only at H
            have A6 := Aside0.mk A60
            clear A60
            replace H := Option.bind_eq_some_iff.mp H
            obtain ⟨t116, A70, H⟩ := H
            try dsimp only at H
            have A7 := Aside0.mk A70
            clear A70
            have H' := Aside0.mk H
            clear H
            have p111 : 0 ≤ (x9_1 : Int) := of_decide_eq_true (by first | (with_reducible assumption) | assumption)
            have q111 : x9_1 < (l1.length : Int) := of_decide_eq_true (by first | (with_reducible assumption) | assumption)
            obtain ⟨ad111, e111, hx111_0, hx111_1⟩ := at_T27 (Kd.C_kept_now HR1.out HK.out) x9_1 p111 q111
            cases e111
            replace p111 := eq_true p111
            replace q111 := eq_true q111
            go_wp2_with (first | ((with_reducible refine gate_dst (N := 6) rfl ?_); refine box_event rfl (N := 6) rfl (cs := #[.int .i64 0, .int .i64 0]) (t := 27) (by go_simp; try rfl) ?_; intro gb112 hg w8 hbox hb; replace HO_0 := Aside0.mk (Kd.R_below (sR HO_0.out) hb); have BK112 := Aside0.mk (hbox); have GW112 := Aside0.mk ((by rw [hg]; exact (by first | exact HK.out.1 | exact (show Kept w _ (fun k_ => P0_ k_) from by repeat (first | (with_reducible first | exact HK.out | apply Kept.alloc | apply Kept.drewN | apply Kept.drew) | exact HK.out)).1) : w.heap.size ≤ gb112)); replace HK := Aside0.mk (Kept.below (S := (fun k_ => P0_ k_)) (by repeat (first | (with_reducible first | exact HK.out | apply Kept.alloc | apply Kept.drewN | apply Kept.drew) | exact HK.out)) hb); have GE112 := Aside0.mk ((by rw [hg]; exact (sZ HB) : w0.heap.size ≤ gb112)); replace HB := kH HB hb; clear hb hbox hg; obtain ⟨hcz9_0, hcz9_1, hfz9_0, hfz9_1⟩ := cs2 BK112.out) | ((with_reducible refine gate_store (t := 27) (p := 6) rfl ?_); refine store_event (t := 27) (p := 6) (v := ?vo_w10) (w1 := ((w8.setCell ⟨gb112, 0, none⟩ (.int .i64 ((rd_T27 l1 x9_1).f0))).setCell ⟨gb112, 1, none⟩ (.int .i64 ((rd_T27 l1 x9_1).f1)))) ?hg ?ho ?hn ?hr ?_; (case ho => rfl); (case hg => rfl); (case hn => rfl); (case hr => first | (go_simp; done) | (go_simp; rfl)); intro w10 hw; have n0_ : Aside0 (Kd.R (Kd.int .u8) 5 w10 w0.heap.size (fun k_ => (P0_ k_ ∨ w.heap.size ≤ k_)) u0 x0_1) := ⟨(by rw [hw]; exact (by (with_reducible repeat (first | apply Kd.R_alloc | apply Kd.R_drewN | apply Kd.R_drew)); exact Kd.R_mono (Kd.R_far (p := ⟨gb112, 1, none⟩) (Kd.R_far (p := ⟨gb112, 0, none⟩) (Kd.R_types HO_0.out BK112.out (by decide)) (fun _ hk => hk.2) (.int .i64 ((rd_T27 l1 x9_1).f0))) (fun _ hk => hk.2) (.int .i64 ((rd_T27 l1 x9_1).f1))) (fun _ hk => hk.1)))⟩; have n1_ : Aside0 (w10.heap[gb112]? = some (.cells #[.int .i64 ((rd_T27 l1 x9_1).f0), .int .i64 ((rd_T27 l1 x9_1).f1)] 27 (0, 0))) := ⟨(by rw [hw]; exact (by (try refine sO ?_); refine blk_put (cs := #[.int .i64 ((rd_T27 l1 x9_1).f0), .int .i64 0]) ?_ 1 _ rfl; (try refine sO ?_); refine blk_put (cs := #[.int .i64 0, .int .i64 0]) ?_ 0 _ rfl; first | exact BK112.out | (refine sO ?_; exact BK112.out)))⟩; have n2_ : Aside0 (Kept w w10 (fun k_ => P0_ k_)) := ⟨(by rw [hw]; exact (by repeat (first | (with_reducible first | exact HK.out | apply Kept.alloc | apply Kept.drewN | apply Kept.drew | refine Kept.setCell ?_ (.inr GW112.out) _) | exact HK.out)))⟩; have n3_ : Aside0 (Below w0.heap.size w0 w10) := ⟨(by rw [hw]; exact (by repeat (first | exact sH HB.out | refine sN (w := w0) ?_ | with_reducible refine sG (w := w0) ?_ (by assumption))))⟩; clear hw; clear HO_0; clear BK112; clear HK; clear HB; have HO_0 := n0_; have BK112 := n1_; have HK := n2_; have HB := n3_; clear n0_ n1_ n2_ n3_; obtain ⟨hcz11_0, hcz11_1, hfz11_0, hfz11_1⟩ := cs2 BK112.out; obtain ⟨Ao12, co12, eo12⟩ := Kd.R_slice HO_0.out; subst eo12) | ((with_reducible refine gate_callee (f := 38) rfl ?_); refine goesL_ (some 16) rfl rfl Try.func38 (by kernel_rfl) rfl #[.slice Ao12 x0_1.length co12, .int .i64 ((rd_T27 l1 x9_1).f0), .int .i64 2] rfl (by (try simp only [sM]); first | done | rfl | (simp only [sT]; rfl)) ?_; (with_reducible refine (desc_told.calls k1 (fun k_ => some k_ = (.slice Ao12 x0_1.length co12 : Value).ownBlock) (.slice Ao12 x0_1.length co12) x0_1 ((rd_T27 l1 x9_1).f0) 2 t113 w0 _ ?side1 ?side2 A6.out).mono ?_); (case side1 => repeat (first | exact sH HB.out | refine sN (w := w0) ?_ | with_reducible refine sG (w := w0) ?_ (by assumption))); (case side2 => exact Kd.R_tight rfl HO_0.out); rintro e w13 ⟨v114, rfl, ho0, hb, hkp⟩; refine ⟨_, rfl, ?_⟩; have n0_ := Aside0.mk (blk_kept (by first | exact BK112.out | (refine sO ?_; exact BK112.out)) hkp (fun hs_ => (fun e_ => (Kd.R_ne HO_0.out BK112.out (by decide)) e_) hs_)); have n1_ := Aside0.mk (Kd.R_mono (ok' := fun k_ => (P0_ k_ ∨ w.heap.size ≤ k_)) ho0 (fun k_ hk_ => Or.elim hk_ (fun hs_ => (HO_0.out.1 k_ (hs_).symm)) (fun hn_ => (.inr (Nat.le_trans (by first | exact HK.out.1 | exact (show Kept w _ (fun k_ => P0_ k_) from by repeat (first | (with_reducible first | exact HK.out | apply Kept.alloc | apply Kept.drewN | apply Kept.drew | refine Kept.setCell ?_ (.inr GW112.out) _) | exact HK.out)).1) hn_))))); have n2_ := Aside0.mk (Kept.then_ (S := (fun k_ => P0_ k_)) (by repeat (first | (with_reducible first | exact HK.out | apply Kept.alloc | apply Kept.drewN | apply Kept.drew | refine Kept.setCell ?_ (.inr GW112.out) _) | exact HK.out)) hkp (fun k_ hs_ => (fun e_ => (HO_0.out.1 k_ e_.symm)) hs_)); have n3_ := Aside0.mk (hb); clear BK112; clear HK; clear HB; clear HO_0; have BK112 := n0_; have HO115 := n1_; have HK := n2_; have HB := n3_; clear n0_ n1_ n2_ n3_; (try clear hb); (try clear hkp); (try clear ho0); obtain ⟨hcz14_0, hcz14_1, hfz14_0, hfz14_1⟩ := cs2 BK112.out; obtain ⟨Ao15, co15, eo15⟩ := Kd.R_slice HO115.out; subst eo15) | ((with_reducible refine gate_callee (f := 38) rfl ?_); refine goesL_ (some 20) rfl rfl Try.func38 (by kernel_rfl) rfl #[.slice Ao15 t113.length co15, .int .i64 ((rd_T27 l1 x9_1).f1), .int .i64 4] rfl (by (try simp only [sM]); first | done | rfl | (simp only [sT]; rfl)) ?_; (with_reducible refine (desc_told.calls k1 (fun k_ => some k_ = (.slice Ao15 t113.length co15 : Value).ownBlock) (.slice Ao15 t113.length co15) t113 ((rd_T27 l1 x9_1).f1) 4 t116 w0 _ ?side1 ?side2 A7.out).mono ?_); (case side1 => repeat (first | exact sH HB.out | refine sN (w := w0) ?_ | with_reducible refine sG (w := w0) ?_ (by assumption))); (case side2 => exact Kd.R_tight rfl HO115.out); rintro e w16 ⟨v117, rfl, ho0, hb, hkp⟩; refine ⟨_, rfl, ?_⟩; have n0_ := Aside0.mk (blk_kept (by first | exact BK112.out | (refine sO ?_; exact BK112.out)) hkp (fun hs_ => (fun e_ => (Kd.R_ne HO115.out BK112.out (by decide)) e_) hs_)); have n1_ := Aside0.mk (Kd.R_mono (ok' := fun k_ => (P0_ k_ ∨ w.heap.size ≤ k_)) ho0 (fun k_ hk_ => Or.elim hk_ (fun hs_ => (HO115.out.1 k_ (hs_).symm)) (fun hn_ => (.inr (Nat.le_trans (by first | exact HK.out.1 | exact (show Kept w _ (fun k_ => P0_ k_) from by repeat (first | (with_reducible first | exact HK.out | apply Kept.alloc | apply Kept.drewN | apply Kept.drew | refine Kept.setCell ?_ (.inr GW112.out) _) | exact HK.out)).1) hn_))))); have n2_ := Aside0.mk (Kept.then_ (S := (fun k_ => P0_ k_)) (by repeat (first | (with_reducible first | exact HK.out | apply Kept.alloc | apply Kept.drewN | apply Kept.drew | refine Kept.setCell ?_ (.inr GW112.out) _) | exact HK.out)) hkp (fun k_ hs_ => (fun e_ => (HO115.out.1 k_ e_.symm)) hs_)); have n3_ := Aside0.mk (hb); clear BK112; clear HK; clear HB; clear HO115; have BK112 := n0_; have HO118 := n1_; have HK := n2_; have HB := n3_; clear n0_ n1_ n2_ n3_; (try clear hb); (try clear hkp); (try clear ho0)))
            go_roundg k1
            case measure => have := HK1.out; omega
            case rel => exact ⟨(t116), (wrap64 (x9_1 + 1)), (by first | rfl | (simp; done) | (simp [*]; done)), H', ⟨by have := HK1.out; omega⟩, ⟨by (with_reducible repeat (first | apply Kd.R_alloc | apply Kd.R_drewN | apply Kd.R_drew)); exact HO118.out⟩, ⟨by repeat (first | (with_reducible first | exact HK.out | apply Kept.alloc | apply Kept.drewN | apply Kept.drew | refine Kept.setCell ?_ (.inr GW112.out) _) | exact HK.out)⟩, ⟨by repeat (first | exact sH HB.out | refine sN (w := w0) ?_ | with_reducible refine sG (w := w0) ?_ (by assumption))⟩⟩
          · rw [if_neg c5] at H
            exact absurd H (by simp)
        · rw [if_neg c4] at H
          exact absurd H (by simp)
      · rw [if_neg c3] at H
        have c3b0 : decide (x9_1 < (l1.length : Int)) = false := decide_eq_false c3
        clear c3
        obtain rfl := Option.some.inj H
        go_wp2
        go_ret
        exact ⟨_, by first | rfl | (simp [errW_none, errW_some] <;> rfl) | (simp [*, errW_none, errW_some] <;> rfl), by (with_reducible repeat (first | apply Kd.R_alloc | apply Kd.R_drewN | apply Kd.R_drew)); exact HO_0.out, by exact sH HB.out, by repeat (first | (with_reducible first | exact HK.out | apply Kept.alloc | apply Kept.drewN | apply Kept.drew) | exact HK.out)⟩

end Go.Proofs.Ytdpllcmpndcbnaa.P

-- Written by a program of this session, after the kit's print.
import Derived.Test.YtemmhgfjfbdggaaPx0
import Derived.Test.YtemmhgfjfbdggaaM8h
namespace Go.Proofs.Ytemmhgfjfbdggaa.P
open Go.RowKit Go.Proofs.YtemmhgfjfbdggaaW.PrintWords Go.Proofs.YtemmhgfjfbdggaaW.PrintLast Go.Proofs.YtemmhgfjfbdggaaW.PrintMore
attribute [local go_sem] max2_int min2_int max_two min_two max_three min_three max_four min_four   -- for this text's walks alone
set_option linter.unusedVariables false
set_option linter.unusedSimpArgs false

def conv_bytes.f (a : ByteArray) : Option (List Int) := if a.size ≤ 9223372036854775807 then some (bytesOf a) else none
theorem conv_bytes.reads (W : World) (e : TypeId) (s : ByteArray) (hs : s.size ≤ 9223372036854775807) : Kd.V (Kd.int .u8) e (Lib.bytesWorld W e s) W.heap.size (fun k_ => W.heap.size ≤ k_) (.slice (some ⟨W.heap.size, 0, none⟩) s.size (grownCap W s.size 0 e)) (bytesOf s) := by
 have hl := bytesOf_length s
 refine ⟨some ⟨W.heap.size, 0, none⟩, grownCap W s.size 0 e, by rw [hl], by rw [hl]; exact grownCap_ge _ _ _ _, fun W' hW => ?_⟩
 have hb : W'.heap[W.heap.size]? = (Lib.bytesWorld W e s).heap[W.heap.size]? := hW _ (Nat.le_refl _) (by rw [Lib.bytesWorld_size]; omega)
 have hr := bytes_reads W e s hs
 refine Kd.C_of_reads (d := 0) (h1 := fun _ => rfl) ⟨rfl, by rw [hl]; exact hs, fun hn => ?_⟩
 obtain ⟨ad, h1, h2⟩ := hr.2.2 (by rw [hl] at hn; exact hn)
 refine ⟨ad, h1, fun j hj => ?_⟩
 injection h1 with h1
 subst h1
 have := h2 j (by rw [hl] at hj; exact hj)
 rw [add_plain] at this ⊢
 rw [← this]
 exact World.cell?_of_block hb
theorem conv_bytesL {P : Program} {ops : Array Oper} {rest : List Oper} {o : Oper} {a : Act} {Q : Exit → Act → World → Prop} {W : World} {src dst e : TypeId} {x : Operand} {u : TypeDesc} (N : Tmp) (hd : o.dst = some N) (hg : o.guard = none) (ho : o.op = .convert src dst x)
  (hs : P.underlying src = some u) (ht : P.underlying dst = some (.slice e)) (he : P.underlying e = some (.int .u8)) (s : ByteArray) (hx : a.eval x = .string s) {r : List Int} (h : conv_bytes.f s = some r)
  (k : ∀ v w1, Kd.V (Kd.int .u8) e w1 W.heap.size (fun k_ => W.heap.size ≤ k_) v r → Below W.heap.size W w1 → wpList P ops Q rest (a.put (some N) v) w1) : wpList P ops Q (o :: rest) a W := by
 unfold conv_bytes.f at h
 by_cases hm : s.size ≤ 9223372036854775807
 ·
  rw [if_pos hm] at h
  injection h with h
  subst h
  have hrun : (execOp a.eval o).run P W = .ok (.value (.slice (some ⟨W.heap.size, 0, none⟩) s.size (grownCap W s.size 0 e))) (Lib.bytesWorld W e s) := by
   unfold execOp
   simp only [ho, hx, Sem.run_bind, print_bytes src dst e hs ht he s W, Result.andThen_ok, Sem.run_pure]
  refine Kd.event_run hg hrun ?_
  rw [hd]
  exact k _ _ (conv_bytes.reads W e s hm) (bytes_below (Below.refl _ _) (Nat.le_refl _) e s)
 ·
  rw [if_neg hm] at h
  cases h
def okP (a b c d : Int) : Bool := decide (1 ≤ a ∧ a ≤ 12 ∧ 0 ≤ b ∧ b ≤ 4 ∧ 8 ≤ c ∧ c ≤ 64 ∧ 32 ≤ a * c ∧ 8 ≤ d ∧ d ≤ 256)
theorem okP_iff {a b c d : Int} : okP a b c d = true ↔ (1 ≤ a ∧ a ≤ 12 ∧ 0 ≤ b ∧ b ≤ 4 ∧ 8 ≤ c ∧ c ≤ 64 ∧ 32 ≤ a * c ∧ 8 ≤ d ∧ d ≤ 256) := by simp [okP]
theorem mul_small {a c : Int} (h1 : 1 ≤ a) (h2 : a ≤ 12) (h3 : 8 ≤ c) (h4 : c ≤ 64) : 8 ≤ a * c ∧ a * c ≤ 768 := by
 have l : 1 * c ≤ a * c := Int.mul_le_mul_of_nonneg_right h1 (by omega)
 have r : a * c ≤ 12 * c := Int.mul_le_mul_of_nonneg_right h2 (by omega)
 omega
def layout_Check.f (a0_0 : Int) (a0_1 : Int) (a0_2 : Int) (a0_3 : Int) : Option Int := some (if okP a0_0 a0_1 a0_2 a0_3 = true then 0 else 2)
set_option maxHeartbeats 8000000 in
set_option maxRecDepth 100000 in
theorem layout_Check.calls (a0_0 : Int) (a0_1 : Int) (a0_2 : Int) (a0_3 : Int) (r : Int) (w : World) (h : layout_Check.f a0_0 a0_1 a0_2 a0_3 = some r) :
  Calls Try.prog 56 #[.agg #[.int .i64 a0_0, .int .i64 a0_1, .int .i64 a0_2, .int .i64 a0_3]] w fun e w' => e = .returned (.int .i64 r) ∧ Below w.heap.size w w' := by
 have hu23 := Try.underlying23
 have HB := Aside0.mk (Below.refl w.heap.size w)
 obtain rfl : (if okP a0_0 a0_1 a0_2 a0_3 = true then 0 else 2) = r := by simpa [layout_Check.f] using h
 clear h
 by_cases c0 : a0_0 < 1
 ·
  rw [if_neg (by rw [okP_iff]; omega)]
  go_enter Try.func56, Try.ntmps56
  go_wp2_with (((with_reducible refine gate_dst (N := 1) rfl ?_); refine box_event rfl (N := 1) rfl (cs := #[.int .i64 a0_0, .int .i64 a0_1, .int .i64 a0_2, .int .i64 a0_3]) (t := 23) (by go_simp; try rfl) ?_; intro g1 hg w1 hbox hb; have BKg1 := Aside0.mk (hbox); have GEg1 := Aside0.mk ((by rw [hg]; exact (sZ HB)) : w.heap.size ≤ g1); replace HB := kH HB hb; clear hb hbox hg; obtain ⟨hca_g1_0, hca_g1_1, hca_g1_2, hca_g1_3, hfa_g1_0, hfa_g1_1, hfa_g1_2, hfa_g1_3⟩ := cs4 BKg1.out))
  go_ret
  exact ⟨rfl, HB.out⟩
 by_cases c1 : a0_0 > 12
 ·
  rw [if_neg (by rw [okP_iff]; omega)]
  go_enter Try.func56, Try.ntmps56
  go_wp2_with (((with_reducible refine gate_dst (N := 1) rfl ?_); refine box_event rfl (N := 1) rfl (cs := #[.int .i64 a0_0, .int .i64 a0_1, .int .i64 a0_2, .int .i64 a0_3]) (t := 23) (by go_simp; try rfl) ?_; intro g1 hg w1 hbox hb; have BKg1 := Aside0.mk (hbox); have GEg1 := Aside0.mk ((by rw [hg]; exact (sZ HB)) : w.heap.size ≤ g1); replace HB := kH HB hb; clear hb hbox hg; obtain ⟨hca_g1_0, hca_g1_1, hca_g1_2, hca_g1_3, hfa_g1_0, hfa_g1_1, hfa_g1_2, hfa_g1_3⟩ := cs4 BKg1.out))
  go_ret
  exact ⟨rfl, HB.out⟩
 by_cases c2 : a0_1 < 0
 ·
  rw [if_neg (by rw [okP_iff]; omega)]
  go_enter Try.func56, Try.ntmps56
  go_wp2_with (((with_reducible refine gate_dst (N := 1) rfl ?_); refine box_event rfl (N := 1) rfl (cs := #[.int .i64 a0_0, .int .i64 a0_1, .int .i64 a0_2, .int .i64 a0_3]) (t := 23) (by go_simp; try rfl) ?_; intro g1 hg w1 hbox hb; have BKg1 := Aside0.mk (hbox); have GEg1 := Aside0.mk ((by rw [hg]; exact (sZ HB)) : w.heap.size ≤ g1); replace HB := kH HB hb; clear hb hbox hg; obtain ⟨hca_g1_0, hca_g1_1, hca_g1_2, hca_g1_3, hfa_g1_0, hfa_g1_1, hfa_g1_2, hfa_g1_3⟩ := cs4 BKg1.out))
  go_ret
  exact ⟨rfl, HB.out⟩
 by_cases c3 : a0_1 > 4
 ·
  rw [if_neg (by rw [okP_iff]; omega)]
  go_enter Try.func56, Try.ntmps56
  go_wp2_with (((with_reducible refine gate_dst (N := 1) rfl ?_); refine box_event rfl (N := 1) rfl (cs := #[.int .i64 a0_0, .int .i64 a0_1, .int .i64 a0_2, .int .i64 a0_3]) (t := 23) (by go_simp; try rfl) ?_; intro g1 hg w1 hbox hb; have BKg1 := Aside0.mk (hbox); have GEg1 := Aside0.mk ((by rw [hg]; exact (sZ HB)) : w.heap.size ≤ g1); replace HB := kH HB hb; clear hb hbox hg; obtain ⟨hca_g1_0, hca_g1_1, hca_g1_2, hca_g1_3, hfa_g1_0, hfa_g1_1, hfa_g1_2, hfa_g1_3⟩ := cs4 BKg1.out))
  go_ret
  exact ⟨rfl, HB.out⟩
 by_cases c4 : a0_2 < 8
 ·
  rw [if_neg (by rw [okP_iff]; omega)]
  go_enter Try.func56, Try.ntmps56
  go_wp2_with (((with_reducible refine gate_dst (N := 1) rfl ?_); refine box_event rfl (N := 1) rfl (cs := #[.int .i64 a0_0, .int .i64 a0_1, .int .i64 a0_2, .int .i64 a0_3]) (t := 23) (by go_simp; try rfl) ?_; intro g1 hg w1 hbox hb; have BKg1 := Aside0.mk (hbox); have GEg1 := Aside0.mk ((by rw [hg]; exact (sZ HB)) : w.heap.size ≤ g1); replace HB := kH HB hb; clear hb hbox hg; obtain ⟨hca_g1_0, hca_g1_1, hca_g1_2, hca_g1_3, hfa_g1_0, hfa_g1_1, hfa_g1_2, hfa_g1_3⟩ := cs4 BKg1.out))
  go_ret
  exact ⟨rfl, HB.out⟩
 by_cases c5 : a0_2 > 64
 ·
  rw [if_neg (by rw [okP_iff]; omega)]
  go_enter Try.func56, Try.ntmps56
  go_wp2_with (((with_reducible refine gate_dst (N := 1) rfl ?_); refine box_event rfl (N := 1) rfl (cs := #[.int .i64 a0_0, .int .i64 a0_1, .int .i64 a0_2, .int .i64 a0_3]) (t := 23) (by go_simp; try rfl) ?_; intro g1 hg w1 hbox hb; have BKg1 := Aside0.mk (hbox); have GEg1 := Aside0.mk ((by rw [hg]; exact (sZ HB)) : w.heap.size ≤ g1); replace HB := kH HB hb; clear hb hbox hg; obtain ⟨hca_g1_0, hca_g1_1, hca_g1_2, hca_g1_3, hfa_g1_0, hfa_g1_1, hfa_g1_2, hfa_g1_3⟩ := cs4 BKg1.out))
  go_ret
  exact ⟨rfl, HB.out⟩
 by_cases c6 : a0_3 < 8
 ·
  rw [if_neg (by rw [okP_iff]; omega)]
  go_enter Try.func56, Try.ntmps56
  go_wp2_with (((with_reducible refine gate_dst (N := 1) rfl ?_); refine box_event rfl (N := 1) rfl (cs := #[.int .i64 a0_0, .int .i64 a0_1, .int .i64 a0_2, .int .i64 a0_3]) (t := 23) (by go_simp; try rfl) ?_; intro g1 hg w1 hbox hb; have BKg1 := Aside0.mk (hbox); have GEg1 := Aside0.mk ((by rw [hg]; exact (sZ HB)) : w.heap.size ≤ g1); replace HB := kH HB hb; clear hb hbox hg; obtain ⟨hca_g1_0, hca_g1_1, hca_g1_2, hca_g1_3, hfa_g1_0, hfa_g1_1, hfa_g1_2, hfa_g1_3⟩ := cs4 BKg1.out))
  go_ret
  exact ⟨rfl, HB.out⟩
 by_cases c7 : a0_3 > 256
 ·
  rw [if_neg (by rw [okP_iff]; omega)]
  go_enter Try.func56, Try.ntmps56
  go_wp2_with (((with_reducible refine gate_dst (N := 1) rfl ?_); refine box_event rfl (N := 1) rfl (cs := #[.int .i64 a0_0, .int .i64 a0_1, .int .i64 a0_2, .int .i64 a0_3]) (t := 23) (by go_simp; try rfl) ?_; intro g1 hg w1 hbox hb; have BKg1 := Aside0.mk (hbox); have GEg1 := Aside0.mk ((by rw [hg]; exact (sZ HB)) : w.heap.size ≤ g1); replace HB := kH HB hb; clear hb hbox hg; obtain ⟨hca_g1_0, hca_g1_1, hca_g1_2, hca_g1_3, hfa_g1_0, hfa_g1_1, hfa_g1_2, hfa_g1_3⟩ := cs4 BKg1.out))
  go_ret
  exact ⟨rfl, HB.out⟩
 obtain ⟨ml, mr⟩ := mul_small (show 1 ≤ a0_0 by omega) (show a0_0 ≤ 12 by omega) (show 8 ≤ a0_2 by omega) (show a0_2 ≤ 64 by omega)
 by_cases cm : a0_0 * a0_2 < 32
 ·
  rw [if_neg (by rw [okP_iff]; omega)]
  go_enter Try.func56, Try.ntmps56
  go_wp2_with (((with_reducible refine gate_dst (N := 1) rfl ?_); refine box_event rfl (N := 1) rfl (cs := #[.int .i64 a0_0, .int .i64 a0_1, .int .i64 a0_2, .int .i64 a0_3]) (t := 23) (by go_simp; try rfl) ?_; intro g1 hg w1 hbox hb; have BKg1 := Aside0.mk (hbox); have GEg1 := Aside0.mk ((by rw [hg]; exact (sZ HB)) : w.heap.size ≤ g1); replace HB := kH HB hb; clear hb hbox hg; obtain ⟨hca_g1_0, hca_g1_1, hca_g1_2, hca_g1_3, hfa_g1_0, hfa_g1_1, hfa_g1_2, hfa_g1_3⟩ := cs4 BKg1.out))
  go_ret
  exact ⟨rfl, HB.out⟩
 ·
  rw [if_pos (by rw [okP_iff]; omega)]
  go_enter Try.func56, Try.ntmps56
  go_wp2_with (((with_reducible refine gate_dst (N := 1) rfl ?_); refine box_event rfl (N := 1) rfl (cs := #[.int .i64 a0_0, .int .i64 a0_1, .int .i64 a0_2, .int .i64 a0_3]) (t := 23) (by go_simp; try rfl) ?_; intro g1 hg w1 hbox hb; have BKg1 := Aside0.mk (hbox); have GEg1 := Aside0.mk ((by rw [hg]; exact (sZ HB)) : w.heap.size ≤ g1); replace HB := kH HB hb; clear hb hbox hg; obtain ⟨hca_g1_0, hca_g1_1, hca_g1_2, hca_g1_3, hfa_g1_0, hfa_g1_1, hfa_g1_2, hfa_g1_3⟩ := cs4 BKg1.out))
  go_ret
  exact ⟨rfl, HB.out⟩
set_option maxHeartbeats 8000000 in
set_option maxRecDepth 100000 in
theorem layout_of.bad (F : Value) (a0_0 : Int) (a0_1 : Int) (a0_2 : Int) (a0_3 : Int) (w : World) (hk : okP a0_0 a0_1 a0_2 a0_3 = false) :
  Calls Try.prog 54 #[.agg #[.int .i64 a0_0, .int .i64 a0_1, .int .i64 a0_2, .int .i64 a0_3], F] w fun e w' => e = .returned (.tuple #[.int .i64 0, .int .i64 2]) ∧ Below w.heap.size w w' := by
 have hu23 := Try.underlying23
 have HC := Aside0.mk (show layout_Check.f a0_0 a0_1 a0_2 a0_3 = some 2 by simp [layout_Check.f, hk])
 clear hk
 have HB := Aside0.mk (Below.refl w.heap.size w)
 go_enter Try.func54, Try.ntmps54
 go_wp2_with (first | ((with_reducible refine gate_dst (N := 2) rfl ?_); refine box_event rfl (N := 2) rfl (cs := #[.int .i64 a0_0, .int .i64 a0_1, .int .i64 a0_2, .int .i64 a0_3]) (t := 23) (by go_simp; try rfl) ?_; intro g1 hg w1 hbox hb; have BKg1 := Aside0.mk (hbox); have GEg1 := Aside0.mk ((by rw [hg]; exact (sZ HB)) : w.heap.size ≤ g1); replace HB := kH HB hb; clear hb hbox hg; obtain ⟨hca_g1_0, hca_g1_1, hca_g1_2, hca_g1_3, hfa_g1_0, hfa_g1_1, hfa_g1_2, hfa_g1_3⟩ := cs4 BKg1.out) | (go_at_call 56; refine (layout_Check.calls a0_0 a0_1 a0_2 a0_3 2 _ HC.out).mono ?_; rintro e w2 ⟨rfl, hb⟩; have BK2 := Aside0.mk (blk_below BKg1.out hb); have HB2 := Aside0.mk (below_step HB.out hb); clear hb HB BKg1; have HB := HB2; have BKg1 := BK2; clear HB2 BK2; obtain ⟨hcb_g1_0, hcb_g1_1, hcb_g1_2, hcb_g1_3, hfb_g1_0, hfb_g1_1, hfb_g1_2, hfb_g1_3⟩ := cs4 BKg1.out))
 go_ret2
 exact ⟨rfl, HB.out⟩

def layout_drives.f (a0_0 : Int) (a0_1 : Int) (a0_2 : Int) (a0_3 : Int) : Option (Int) := some (wrap64 (a0_0 + a0_1))
set_option maxHeartbeats 8000000 in
set_option maxRecDepth 100000 in
theorem layout_drives.calls (a0_0 : Int) (a0_1 : Int) (a0_2 : Int) (a0_3 : Int) (r : Int) (w : World) (h : layout_drives.f a0_0 a0_1 a0_2 a0_3 = some r) :
  Calls Try.prog 55 #[.agg #[.int .i64 a0_0, .int .i64 a0_1, .int .i64 a0_2, .int .i64 a0_3]] w fun e w' => e = .returned (.int .i64 r) ∧ Below w.heap.size w w' := by
 have hu23 := Try.underlying23
 have HB := Aside0.mk (Below.refl w.heap.size w)
 have H : (some (wrap64 (a0_0 + a0_1))) = some r := h
 clear h
 obtain rfl := Option.some.inj H
 go_enter Try.func55, Try.ntmps55
 go_wp2_with (first | ((with_reducible refine gate_dst (N := 1) rfl ?_); refine box_event rfl (N := 1) rfl (cs := #[.int .i64 a0_0, .int .i64 a0_1, .int .i64 a0_2, .int .i64 a0_3]) (t := 23) (by go_simp; try rfl) ?_; intro gb101 hg w2 hbox hb; have BK101 := Aside0.mk (hbox); have GW101 := Aside0.mk ((by rw [hg]; exact (sZ HB) : w.heap.size ≤ gb101)); have GE101 := Aside0.mk ((by rw [hg]; exact (sZ HB) : w.heap.size ≤ gb101)); replace HB := kH HB hb; clear hb hbox hg; obtain ⟨hcz3_0, hcz3_1, hcz3_2, hcz3_3, hfz3_0, hfz3_1, hfz3_2, hfz3_3⟩ := cs4 BK101.out))
 go_ret
 exact ⟨by first | rfl | (simp [errW_none, errW_some] <;> rfl) | (simp [*, errW_none, errW_some] <;> rfl), by repeat (first | exact sH HB.out | refine sN (w := w) ?_ | with_reducible refine sG (w := w) ?_ (by assumption))⟩

set_option maxHeartbeats 8000000 in
set_option maxRecDepth 100000 in
theorem layout_of.drives (a0_0 : Int) (a0_1 : Int) (a0_2 : Int) (a0_3 : Int) (v : Int) (w : World) (hk : okP a0_0 a0_1 a0_2 a0_3 = true) (hv : layout_drives.f a0_0 a0_1 a0_2 a0_3 = some v) :
  Calls Try.prog 54 #[.agg #[.int .i64 a0_0, .int .i64 a0_1, .int .i64 a0_2, .int .i64 a0_3], .func (.func 55) #[] #[]] w fun e w' => e = .returned (.tuple #[.int .i64 v, .int .i64 0]) ∧ Below w.heap.size w w' := by
 have hu23 := Try.underlying23
 have HC := Aside0.mk (show layout_Check.f a0_0 a0_1 a0_2 a0_3 = some 0 by simp [layout_Check.f, hk])
 have HV := Aside0.mk hv
 clear hk hv
 have HB := Aside0.mk (Below.refl w.heap.size w)
 go_enter Try.func54, Try.ntmps54
 go_wp2_with (first | ((with_reducible refine gate_dst (N := 2) rfl ?_); refine box_event rfl (N := 2) rfl (cs := #[.int .i64 a0_0, .int .i64 a0_1, .int .i64 a0_2, .int .i64 a0_3]) (t := 23) (by go_simp; try rfl) ?_; intro g1 hg w1 hbox hb; have BKg1 := Aside0.mk (hbox); have GEg1 := Aside0.mk ((by rw [hg]; exact (sZ HB)) : w.heap.size ≤ g1); replace HB := kH HB hb; clear hb hbox hg; obtain ⟨hca_g1_0, hca_g1_1, hca_g1_2, hca_g1_3, hfa_g1_0, hfa_g1_1, hfa_g1_2, hfa_g1_3⟩ := cs4 BKg1.out) | (go_at_call 56; refine (layout_Check.calls a0_0 a0_1 a0_2 a0_3 0 _ HC.out).mono ?_; rintro e w2 ⟨rfl, hb⟩; have BK2 := Aside0.mk (blk_below BKg1.out hb); have HB2 := Aside0.mk (below_step HB.out hb); clear hb HB BKg1; have HB := HB2; have BKg1 := BK2; clear HB2 BK2; obtain ⟨hcb_g1_0, hcb_g1_1, hcb_g1_2, hcb_g1_3, hfb_g1_0, hfb_g1_1, hfb_g1_2, hfb_g1_3⟩ := cs4 BKg1.out) | (go_at_call 55; refine (layout_drives.calls a0_0 a0_1 a0_2 a0_3 v _ HV.out).mono ?_; rintro e w3 ⟨rfl, hb⟩; have BK2 := Aside0.mk (blk_below BKg1.out hb); have HB2 := Aside0.mk (below_step HB.out hb); clear hb HB BKg1; have HB := HB2; have BKg1 := BK2; clear HB2 BK2))
 go_ret2
 exact ⟨rfl, HB.out⟩
def layout_Drives.f (a0_0 : Int) (a0_1 : Int) (a0_2 : Int) (a0_3 : Int) : Option (Int × Int) := some (if okP a0_0 a0_1 a0_2 a0_3 = true then (a0_0 + a0_1, 0) else (0, 2))
theorem layout_drives.ev (a0_0 : Int) (a0_1 : Int) (a0_2 : Int) (a0_3 : Int) (hk : okP a0_0 a0_1 a0_2 a0_3 = true) : layout_drives.f a0_0 a0_1 a0_2 a0_3 = some (a0_0 + a0_1) := by
 obtain ⟨h1, h2, h3, h4, h5, h6, h7, h8, h9⟩ := okP_iff.mp hk
 obtain ⟨ml, mr⟩ := mul_small h1 h2 h5 h6
 have e : wrap64 (a0_0 + a0_1) = a0_0 + a0_1 := by unfold wrap64; omega
 simp only [layout_drives.f, e]
set_option maxHeartbeats 8000000 in
set_option maxRecDepth 100000 in
theorem layout_Drives.calls (a0_0 : Int) (a0_1 : Int) (a0_2 : Int) (a0_3 : Int) (r1 : Int) (r2 : Int) (w : World) (h : layout_Drives.f a0_0 a0_1 a0_2 a0_3 = some (r1, r2)) :
  Calls Try.prog 42 #[.agg #[.int .i64 a0_0, .int .i64 a0_1, .int .i64 a0_2, .int .i64 a0_3]] w fun e w' => e = .returned (.tuple #[.int .i64 r1, .int .i64 r2]) ∧ Below w.heap.size w w' := by
 have hu23 := Try.underlying23
 have HB := Aside0.mk (Below.refl w.heap.size w)
 unfold layout_Drives.f at h
 by_cases hk : okP a0_0 a0_1 a0_2 a0_3 = true
 ·
  rw [if_pos hk] at h
  obtain ⟨rfl, rfl⟩ : a0_0 + a0_1 = r1 ∧ 0 = r2 := by simpa using h
  have HV := Aside0.mk (layout_drives.ev a0_0 a0_1 a0_2 a0_3 hk)
  have HK := Aside0.mk hk
  clear hk h
  go_enter Try.func42, Try.ntmps42
  go_wp2_with (first | ((with_reducible refine gate_dst (N := 1) rfl ?_); refine box_event rfl (N := 1) rfl (cs := #[.int .i64 a0_0, .int .i64 a0_1, .int .i64 a0_2, .int .i64 a0_3]) (t := 23) (by go_simp; try rfl) ?_; intro g1 hg w1 hbox hb; have BKg1 := Aside0.mk (hbox); have GEg1 := Aside0.mk ((by rw [hg]; exact (sZ HB)) : w.heap.size ≤ g1); replace HB := kH HB hb; clear hb hbox hg; obtain ⟨hca_g1_0, hca_g1_1, hca_g1_2, hca_g1_3, hfa_g1_0, hfa_g1_1, hfa_g1_2, hfa_g1_3⟩ := cs4 BKg1.out) | (go_at_call 54; refine (layout_of.drives a0_0 a0_1 a0_2 a0_3 _ _ HK.out HV.out).mono ?_; rintro e w3 ⟨rfl, hb⟩; have BK2 := Aside0.mk (blk_below BKg1.out hb); have HB2 := Aside0.mk (below_step HB.out hb); clear hb HB BKg1; have HB := HB2; have BKg1 := BK2; clear HB2 BK2))
  go_ret2
  exact ⟨rfl, HB.out⟩
 ·
  rw [if_neg hk] at h
  obtain ⟨rfl, rfl⟩ : 0 = r1 ∧ 2 = r2 := by simpa using h
  have HK := Aside0.mk (show okP a0_0 a0_1 a0_2 a0_3 = false by simpa using hk)
  clear hk h
  go_enter Try.func42, Try.ntmps42
  go_wp2_with (first | ((with_reducible refine gate_dst (N := 1) rfl ?_); refine box_event rfl (N := 1) rfl (cs := #[.int .i64 a0_0, .int .i64 a0_1, .int .i64 a0_2, .int .i64 a0_3]) (t := 23) (by go_simp; try rfl) ?_; intro g1 hg w1 hbox hb; have BKg1 := Aside0.mk (hbox); have GEg1 := Aside0.mk ((by rw [hg]; exact (sZ HB)) : w.heap.size ≤ g1); replace HB := kH HB hb; clear hb hbox hg; obtain ⟨hca_g1_0, hca_g1_1, hca_g1_2, hca_g1_3, hfa_g1_0, hfa_g1_1, hfa_g1_2, hfa_g1_3⟩ := cs4 BKg1.out) | (go_at_call 54; refine (layout_of.bad _ a0_0 a0_1 a0_2 a0_3 _ HK.out).mono ?_; rintro e w3 ⟨rfl, hb⟩; have BK2 := Aside0.mk (blk_below BKg1.out hb); have HB2 := Aside0.mk (below_step HB.out hb); clear hb HB BKg1; have HB := HB2; have BKg1 := BK2; clear HB2 BK2))
  go_ret2
  exact ⟨rfl, HB.out⟩

def twoslotref06_May.f (a0_0 : Int) (a0_1 : Int) (a0_2 : Int) (a0_3 : Int) : Option (Bool) := if a0_0 ≥ 1 then (if a0_0 ≤ 12 then (if a0_1 ≥ 0 then (if a0_1 ≤ 4 then (if a0_2 ≥ 8 then (if a0_2 ≤ 64 then (if (wrap64 (a0_0 * a0_2)) ≥ 32 then (if a0_3 ≥ 8 then (some (decide (a0_3 ≤ 256))) else (some false)) else (some false)) else (some false)) else (some false)) else (some false)) else (some false)) else (some false)) else (some false)
set_option maxHeartbeats 8000000 in
set_option maxRecDepth 100000 in
theorem twoslotref06_May.calls (a0_0 : Int) (a0_1 : Int) (a0_2 : Int) (a0_3 : Int) (r : Bool) (w : World) (h : twoslotref06_May.f a0_0 a0_1 a0_2 a0_3 = some r) :
  Calls Try.prog 40 #[.agg #[.int .i64 a0_0, .int .i64 a0_1, .int .i64 a0_2, .int .i64 a0_3]] w fun e w' => e = .returned (.bool r) ∧ Below w.heap.size w w' := by
 have hu23 := Try.underlying23
 have HB := Aside0.mk (Below.refl w.heap.size w)
 have H : (if a0_0 ≥ 1 then (if a0_0 ≤ 12 then (if a0_1 ≥ 0 then (if a0_1 ≤ 4 then (if a0_2 ≥ 8 then (if a0_2 ≤ 64 then (if (wrap64 (a0_0 * a0_2)) ≥ 32 then (if a0_3 ≥ 8 then (some (decide (a0_3 ≤ 256))) else (some false)) else (some false)) else (some false)) else (some false)) else (some false)) else (some false)) else (some false)) else (some false)) = some r := h
 clear h
 by_cases c2 : a0_0 ≥ 1
 ·
  rw [if_pos c2] at H
  have c2b0 : decide (1 ≤ a0_0) = true := decide_eq_true c2
  clear c2
  by_cases c3 : a0_0 ≤ 12
  ·
   rw [if_pos c3] at H
   have c3b0 : decide (a0_0 ≤ 12) = true := decide_eq_true c3
   clear c3
   by_cases c4 : a0_1 ≥ 0
   ·
    rw [if_pos c4] at H
    have c4b0 : decide (0 ≤ a0_1) = true := decide_eq_true c4
    clear c4
    by_cases c5 : a0_1 ≤ 4
    ·
     rw [if_pos c5] at H
     have c5b0 : decide (a0_1 ≤ 4) = true := decide_eq_true c5
     clear c5
     by_cases c6 : a0_2 ≥ 8
     ·
      rw [if_pos c6] at H
      have c6b0 : decide (8 ≤ a0_2) = true := decide_eq_true c6
      clear c6
      by_cases c7 : a0_2 ≤ 64
      ·
       rw [if_pos c7] at H
       have c7b0 : decide (a0_2 ≤ 64) = true := decide_eq_true c7
       clear c7
       by_cases c8 : (wrap64 (a0_0 * a0_2)) ≥ 32
       ·
        rw [if_pos c8] at H
        have c8b0 : decide (32 ≤ (wrap64 (a0_0 * a0_2))) = true := decide_eq_true c8
        clear c8
        by_cases c9 : a0_3 ≥ 8
        ·
         rw [if_pos c9] at H
         have c9b0 : decide (8 ≤ a0_3) = true := decide_eq_true c9
         clear c9
         obtain rfl := Option.some.inj H
         go_enter Try.func40, Try.ntmps40
         go_wp2_with (first | ((with_reducible refine gate_dst (N := 1) rfl ?_); refine box_event rfl (N := 1) rfl (cs := #[.int .i64 a0_0, .int .i64 a0_1, .int .i64 a0_2, .int .i64 a0_3]) (t := 23) (by go_simp; try rfl) ?_; intro gb102 hg w10 hbox hb; have BK102 := Aside0.mk (hbox); have GW102 := Aside0.mk ((by rw [hg]; exact (sZ HB) : w.heap.size ≤ gb102)); have GE102 := Aside0.mk ((by rw [hg]; exact (sZ HB) : w.heap.size ≤ gb102)); replace HB := kH HB hb; clear hb hbox hg; obtain ⟨hcz11_0, hcz11_1, hcz11_2, hcz11_3, hfz11_0, hfz11_1, hfz11_2, hfz11_3⟩ := cs4 BK102.out))
         go_ret
         exact ⟨by first | rfl | (simp [errW_none, errW_some] <;> rfl) | (simp [*, errW_none, errW_some] <;> rfl), by repeat (first | exact sH HB.out | refine sN (w := w) ?_ | with_reducible refine sG (w := w) ?_ (by assumption))⟩
        ·
         rw [if_neg c9] at H
         have c9b0 : decide (8 ≤ a0_3) = false := decide_eq_false c9
         clear c9
         obtain rfl := Option.some.inj H
         go_enter Try.func40, Try.ntmps40
         go_wp2_with (first | ((with_reducible refine gate_dst (N := 1) rfl ?_); refine box_event rfl (N := 1) rfl (cs := #[.int .i64 a0_0, .int .i64 a0_1, .int .i64 a0_2, .int .i64 a0_3]) (t := 23) (by go_simp; try rfl) ?_; intro gb102 hg w12 hbox hb; have BK102 := Aside0.mk (hbox); have GW102 := Aside0.mk ((by rw [hg]; exact (sZ HB) : w.heap.size ≤ gb102)); have GE102 := Aside0.mk ((by rw [hg]; exact (sZ HB) : w.heap.size ≤ gb102)); replace HB := kH HB hb; clear hb hbox hg; obtain ⟨hcz13_0, hcz13_1, hcz13_2, hcz13_3, hfz13_0, hfz13_1, hfz13_2, hfz13_3⟩ := cs4 BK102.out))
         go_ret
         exact ⟨by first | rfl | (simp [errW_none, errW_some] <;> rfl) | (simp [*, errW_none, errW_some] <;> rfl), by repeat (first | exact sH HB.out | refine sN (w := w) ?_ | with_reducible refine sG (w := w) ?_ (by assumption))⟩
       ·
        rw [if_neg c8] at H
        have c8b0 : decide (32 ≤ (wrap64 (a0_0 * a0_2))) = false := decide_eq_false c8
        clear c8
        obtain rfl := Option.some.inj H
        go_enter Try.func40, Try.ntmps40
        go_wp2_with (first | ((with_reducible refine gate_dst (N := 1) rfl ?_); refine box_event rfl (N := 1) rfl (cs := #[.int .i64 a0_0, .int .i64 a0_1, .int .i64 a0_2, .int .i64 a0_3]) (t := 23) (by go_simp; try rfl) ?_; intro gb102 hg w14 hbox hb; have BK102 := Aside0.mk (hbox); have GW102 := Aside0.mk ((by rw [hg]; exact (sZ HB) : w.heap.size ≤ gb102)); have GE102 := Aside0.mk ((by rw [hg]; exact (sZ HB) : w.heap.size ≤ gb102)); replace HB := kH HB hb; clear hb hbox hg; obtain ⟨hcz15_0, hcz15_1, hcz15_2, hcz15_3, hfz15_0, hfz15_1, hfz15_2, hfz15_3⟩ := cs4 BK102.out))
        go_ret
        exact ⟨by first | rfl | (simp [errW_none, errW_some] <;> rfl) | (simp [*, errW_none, errW_some] <;> rfl), by repeat (first | exact sH HB.out | refine sN (w := w) ?_ | with_reducible refine sG (w := w) ?_ (by assumption))⟩
      ·
       rw [if_neg c7] at H
       have c7b0 : decide (a0_2 ≤ 64) = false := decide_eq_false c7
       clear c7
       obtain rfl := Option.some.inj H
       go_enter Try.func40, Try.ntmps40
       go_wp2_with (first | ((with_reducible refine gate_dst (N := 1) rfl ?_); refine box_event rfl (N := 1) rfl (cs := #[.int .i64 a0_0, .int .i64 a0_1, .int .i64 a0_2, .int .i64 a0_3]) (t := 23) (by go_simp; try rfl) ?_; intro gb102 hg w16 hbox hb; have BK102 := Aside0.mk (hbox); have GW102 := Aside0.mk ((by rw [hg]; exact (sZ HB) : w.heap.size ≤ gb102)); have GE102 := Aside0.mk ((by rw [hg]; exact (sZ HB) : w.heap.size ≤ gb102)); replace HB := kH HB hb; clear hb hbox hg; obtain ⟨hcz17_0, hcz17_1, hcz17_2, hcz17_3, hfz17_0, hfz17_1, hfz17_2, hfz17_3⟩ := cs4 BK102.out))
       go_ret
       exact ⟨by first | rfl | (simp [errW_none, errW_some] <;> rfl) | (simp [*, errW_none, errW_some] <;> rfl), by repeat (first | exact sH HB.out | refine sN (w := w) ?_ | with_reducible refine sG (w := w) ?_ (by assumption))⟩
     ·
      rw [if_neg c6] at H
      have c6b0 : decide (8 ≤ a0_2) = false := decide_eq_false c6
      clear c6
      obtain rfl := Option.some.inj H
      go_enter Try.func40, Try.ntmps40
      go_wp2_with (first | ((with_reducible refine gate_dst (N := 1) rfl ?_); refine box_event rfl (N := 1) rfl (cs := #[.int .i64 a0_0, .int .i64 a0_1, .int .i64 a0_2, .int .i64 a0_3]) (t := 23) (by go_simp; try rfl) ?_; intro gb102 hg w18 hbox hb; have BK102 := Aside0.mk (hbox); have GW102 := Aside0.mk ((by rw [hg]; exact (sZ HB) : w.heap.size ≤ gb102)); have GE102 := Aside0.mk ((by rw [hg]; exact (sZ HB) : w.heap.size ≤ gb102)); replace HB := kH HB hb; clear hb hbox hg; obtain ⟨hcz19_0, hcz19_1, hcz19_2, hcz19_3, hfz19_0, hfz19_1, hfz19_2, hfz19_3⟩ := cs4 BK102.out))
      go_ret
      exact ⟨by first | rfl | (simp [errW_none, errW_some] <;> rfl) | (simp [*, errW_none, errW_some] <;> rfl), by repeat (first | exact sH HB.out | refine sN (w := w) ?_ | with_reducible refine sG (w := w) ?_ (by assumption))⟩
    ·
     rw [if_neg c5] at H
     have c5b0 : decide (a0_1 ≤ 4) = false := decide_eq_false c5
     clear c5
     obtain rfl := Option.some.inj H
     go_enter Try.func40, Try.ntmps40
     go_wp2_with (first | ((with_reducible refine gate_dst (N := 1) rfl ?_); refine box_event rfl (N := 1) rfl (cs := #[.int .i64 a0_0, .int .i64 a0_1, .int .i64 a0_2, .int .i64 a0_3]) (t := 23) (by go_simp; try rfl) ?_; intro gb102 hg w20 hbox hb; have BK102 := Aside0.mk (hbox); have GW102 := Aside0.mk ((by rw [hg]; exact (sZ HB) : w.heap.size ≤ gb102)); have GE102 := Aside0.mk ((by rw [hg]; exact (sZ HB) : w.heap.size ≤ gb102)); replace HB := kH HB hb; clear hb hbox hg; obtain ⟨hcz21_0, hcz21_1, hcz21_2, hcz21_3, hfz21_0, hfz21_1, hfz21_2, hfz21_3⟩ := cs4 BK102.out))
     go_ret
     exact ⟨by first | rfl | (simp [errW_none, errW_some] <;> rfl) | (simp [*, errW_none, errW_some] <;> rfl), by repeat (first | exact sH HB.out | refine sN (w := w) ?_ | with_reducible refine sG (w := w) ?_ (by assumption))⟩
   ·
    rw [if_neg c4] at H
    have c4b0 : decide (0 ≤ a0_1) = false := decide_eq_false c4
    clear c4
    obtain rfl := Option.some.inj H
    go_enter Try.func40, Try.ntmps40
    go_wp2_with (first | ((with_reducible refine gate_dst (N := 1) rfl ?_); refine box_event rfl (N := 1) rfl (cs := #[.int .i64 a0_0, .int .i64 a0_1, .int .i64 a0_2, .int .i64 a0_3]) (t := 23) (by go_simp; try rfl) ?_; intro gb102 hg w22 hbox hb; have BK102 := Aside0.mk (hbox); have GW102 := Aside0.mk ((by rw [hg]; exact (sZ HB) : w.heap.size ≤ gb102)); have GE102 := Aside0.mk ((by rw [hg]; exact (sZ HB) : w.heap.size ≤ gb102)); replace HB := kH HB hb; clear hb hbox hg; obtain ⟨hcz23_0, hcz23_1, hcz23_2, hcz23_3, hfz23_0, hfz23_1, hfz23_2, hfz23_3⟩ := cs4 BK102.out))
    go_ret
    exact ⟨by first | rfl | (simp [errW_none, errW_some] <;> rfl) | (simp [*, errW_none, errW_some] <;> rfl), by repeat (first | exact sH HB.out | refine sN (w := w) ?_ | with_reducible refine sG (w := w) ?_ (by assumption))⟩
  ·
   rw [if_neg c3] at H
   have c3b0 : decide (a0_0 ≤ 12) = false := decide_eq_false c3
   clear c3
   obtain rfl := Option.some.inj H
   go_enter Try.func40, Try.ntmps40
   go_wp2_with (first | ((with_reducible refine gate_dst (N := 1) rfl ?_); refine box_event rfl (N := 1) rfl (cs := #[.int .i64 a0_0, .int .i64 a0_1, .int .i64 a0_2, .int .i64 a0_3]) (t := 23) (by go_simp; try rfl) ?_; intro gb102 hg w24 hbox hb; have BK102 := Aside0.mk (hbox); have GW102 := Aside0.mk ((by rw [hg]; exact (sZ HB) : w.heap.size ≤ gb102)); have GE102 := Aside0.mk ((by rw [hg]; exact (sZ HB) : w.heap.size ≤ gb102)); replace HB := kH HB hb; clear hb hbox hg; obtain ⟨hcz25_0, hcz25_1, hcz25_2, hcz25_3, hfz25_0, hfz25_1, hfz25_2, hfz25_3⟩ := cs4 BK102.out))
   go_ret
   exact ⟨by first | rfl | (simp [errW_none, errW_some] <;> rfl) | (simp [*, errW_none, errW_some] <;> rfl), by repeat (first | exact sH HB.out | refine sN (w := w) ?_ | with_reducible refine sG (w := w) ?_ (by assumption))⟩
 ·
  rw [if_neg c2] at H
  have c2b0 : decide (1 ≤ a0_0) = false := decide_eq_false c2
  clear c2
  obtain rfl := Option.some.inj H
  go_enter Try.func40, Try.ntmps40
  go_wp2_with (first | ((with_reducible refine gate_dst (N := 1) rfl ?_); refine box_event rfl (N := 1) rfl (cs := #[.int .i64 a0_0, .int .i64 a0_1, .int .i64 a0_2, .int .i64 a0_3]) (t := 23) (by go_simp; try rfl) ?_; intro gb102 hg w26 hbox hb; have BK102 := Aside0.mk (hbox); have GW102 := Aside0.mk ((by rw [hg]; exact (sZ HB) : w.heap.size ≤ gb102)); have GE102 := Aside0.mk ((by rw [hg]; exact (sZ HB) : w.heap.size ≤ gb102)); replace HB := kH HB hb; clear hb hbox hg; obtain ⟨hcz27_0, hcz27_1, hcz27_2, hcz27_3, hfz27_0, hfz27_1, hfz27_2, hfz27_3⟩ := cs4 BK102.out))
  go_ret
  exact ⟨by first | rfl | (simp [errW_none, errW_some] <;> rfl) | (simp [*, errW_none, errW_some] <;> rfl), by repeat (first | exact sH HB.out | refine sN (w := w) ?_ | with_reducible refine sG (w := w) ?_ (by assumption))⟩

def twoslotref06_N.f (a0_0 : Int) (a0_1 : Int) (a0_2 : Int) (a0_3 : Int) : Option (Int) := some (wrap64 (a0_0 + a0_1))
set_option maxHeartbeats 8000000 in
set_option maxRecDepth 100000 in
theorem twoslotref06_N.calls (a0_0 : Int) (a0_1 : Int) (a0_2 : Int) (a0_3 : Int) (r : Int) (w : World) (h : twoslotref06_N.f a0_0 a0_1 a0_2 a0_3 = some r) :
  Calls Try.prog 41 #[.agg #[.int .i64 a0_0, .int .i64 a0_1, .int .i64 a0_2, .int .i64 a0_3]] w fun e w' => e = .returned (.int .i64 r) ∧ Below w.heap.size w w' := by
 have hu23 := Try.underlying23
 have HB := Aside0.mk (Below.refl w.heap.size w)
 have H : (some (wrap64 (a0_0 + a0_1))) = some r := h
 clear h
 obtain rfl := Option.some.inj H
 go_enter Try.func41, Try.ntmps41
 go_wp2_with (first | ((with_reducible refine gate_dst (N := 1) rfl ?_); refine box_event rfl (N := 1) rfl (cs := #[.int .i64 a0_0, .int .i64 a0_1, .int .i64 a0_2, .int .i64 a0_3]) (t := 23) (by go_simp; try rfl) ?_; intro gb103 hg w2 hbox hb; have BK103 := Aside0.mk (hbox); have GW103 := Aside0.mk ((by rw [hg]; exact (sZ HB) : w.heap.size ≤ gb103)); have GE103 := Aside0.mk ((by rw [hg]; exact (sZ HB) : w.heap.size ≤ gb103)); replace HB := kH HB hb; clear hb hbox hg; obtain ⟨hcz3_0, hcz3_1, hcz3_2, hcz3_3, hfz3_0, hfz3_1, hfz3_2, hfz3_3⟩ := cs4 BK103.out))
 go_ret
 exact ⟨by first | rfl | (simp [errW_none, errW_some] <;> rfl) | (simp [*, errW_none, errW_some] <;> rfl), by repeat (first | exact sH HB.out | refine sN (w := w) ?_ | with_reducible refine sG (w := w) ?_ (by assumption))⟩

def twoslotlaw08_big.f (a0_0 : Int) (a0_1 : Int) (a0_2 : Int) (a0_3 : Int) : Option (Bool) := (twoslotref06_May.f a0_0 a0_1 a0_2 a0_3).bind fun t105 => (if t105 = true then ((twoslotref06_N.f a0_0 a0_1 a0_2 a0_3).bind fun t106 => (some (decide ((wrap64 (t106 * a0_3)) > 400)))) else (some false))
def twoslotlaw08_big.T1 : Bool × List (List Nat × List Nat) := (true, [([], []), ([0], [0]), ([1, 1], [1]), ([2], [2]), ([3, 2, 2], [2, 3]), ([2], [2]), ([5, 2], [2, 5]), ([4, 6, 2], [2, 4, 6]), ([7, 2], [2, 7]), ([2, 8], [2, 8]), ([9, 4, 0, 1, 2, 3, 4, 5, 6, 7, 8, 9], [9])])
def twoslotlaw08_big.B1 : List Nat := [0, 1, 3, 7, 15, 7, 39, 127, 255, 511, 1023]
theorem twoslotlaw08_big.tab1 : rtab .any (opsOf Try.f9 1) = twoslotlaw08_big.T1 := by kernel_rfl
theorem twoslotlaw08_big.bits1 : waitsOk twoslotlaw08_big.T1.2 twoslotlaw08_big.B1 = true := by kernel_rfl
set_option maxHeartbeats 8000000 in
set_option maxRecDepth 100000 in
theorem twoslotlaw08_big.calls (a0_0 : Int) (a0_1 : Int) (a0_2 : Int) (a0_3 : Int) (r : Bool) (w : World) (h : twoslotlaw08_big.f a0_0 a0_1 a0_2 a0_3 = some r) :
  Calls Try.prog 9 #[.agg #[.int .i64 a0_0, .int .i64 a0_1, .int .i64 a0_2, .int .i64 a0_3]] w fun e w' => e = .returned (.bool r) ∧ Below w.heap.size w w' := by
 have hu23 := Try.underlying23
 have HB := Aside0.mk (Below.refl w.heap.size w)
 have H : ((twoslotref06_May.f a0_0 a0_1 a0_2 a0_3).bind fun t105 => (if t105 = true then ((twoslotref06_N.f a0_0 a0_1 a0_2 a0_3).bind fun t106 => (some (decide ((wrap64 (t106 * a0_3)) > 400)))) else (some false))) = some r := h
 clear h
 replace H := Option.bind_eq_some_iff.mp H
 obtain ⟨t105, A20, H⟩ := H
 try dsimp only at H
 have A2 := Aside0.mk A20
 clear A20
 by_cases c3 : t105 = true
 ·
  subst c3
  have H1 : ((twoslotref06_N.f a0_0 a0_1 a0_2 a0_3).bind fun t106 => (some (decide ((wrap64 (t106 * a0_3)) > 400)))) = some r := by rw [if_pos rfl] at H; exact H
  clear H
  have H := H1
  clear H1
  replace H := Option.bind_eq_some_iff.mp H
  obtain ⟨t106, A40, H⟩ := H
  try dsimp only at H
  have A4 := Aside0.mk A40
  clear A40
  obtain rfl := Option.some.inj H
  go_enter Try.func9, Try.ntmps9
  try go_wp2_with (first | ((with_reducible refine gate_dst (N := 1) rfl ?_); refine box_event rfl (N := 1) rfl (cs := #[.int .i64 a0_0, .int .i64 a0_1, .int .i64 a0_2, .int .i64 a0_3]) (t := 23) (by go_simp; try rfl) ?_; intro gb104 hg w5 hbox hb; have BK104 := Aside0.mk (hbox); have GW104 := Aside0.mk ((by rw [hg]; exact (sZ HB) : w.heap.size ≤ gb104)); have GE104 := Aside0.mk ((by rw [hg]; exact (sZ HB) : w.heap.size ≤ gb104)); replace HB := kH HB hb; clear hb hbox hg))
  replace BK104 := Aside0.mk (blk_drew BK104.out); replace HB := Aside0.mk (below_drew1 HB.out)
  refine start_ (n := 11) (S := fun w' => w'.cell? ⟨gb104, 0, none⟩ = some (.int .i64 a0_0) ∧ w'.cell? ⟨gb104, 1, none⟩ = some (.int .i64 a0_1) ∧ w'.cell? ⟨gb104, 2, none⟩ = some (.int .i64 a0_2) ∧ w'.cell? ⟨gb104, 3, none⟩ = some (.int .i64 a0_3)) (ds := []) #[O,O,O,O,O,O,O,O,O,O,O] (by kernel_rfl) rfl rfl ⟨(blk_cell BK104.out 0).trans rfl, (blk_cell BK104.out 1).trans rfl, (blk_cell BK104.out 2).trans rfl, (blk_cell BK104.out 3).trans rfl⟩ (fun hHeld => ?_); refine with_tabW twoslotlaw08_big.tab1 twoslotlaw08_big.bits1 (fun HT_ HW_ => ?_)
  generalize w5.drew = w6 at BK104 HB hHeld ⊢
  refine tu (i := 0) (N := some 3) (v := ?_) (a' := ?_) #[X,O,O,O,O,O,O,O,O,O,O] rfl rfl HT_ HW_ (by kernel_rfl) (fun _ _ _ h => h) ⟨by rfl, ?_⟩ hHeld ?_ ?_
  rotate_left; (rintro w' ⟨s0, s1, s2, s3⟩; go_simp; with_reducible rfl); rotate_left; (simp only [sP]; rfl)
  refine one_ (i := 1) (N := some 4) #[X,X,O,O,O,O,O,O,O,O,O] rfl rfl (one_of HT_.out (by kernel_rfl)) (by decide) (fun K hK => ?_)
  refine goes_ Try.func40 (by kernel_rfl) rfl #[.agg #[.int .i64 a0_0, .int .i64 a0_1, .int .i64 a0_2, .int .i64 a0_3]] (by rfl) rfl rfl (by (try simp only [sM]); first | done | rfl | (simp only [sT]; rfl)) ?_
  with_reducible refine (twoslotref06_May.calls a0_0 a0_1 a0_2 a0_3 true _ A2.out).mono ?_
  rintro e w7 ⟨rfl, hb⟩
  refine ⟨_, rfl, ?_⟩
  replace BK104 := kB BK104 hb; replace HB := Aside0.mk (below_step (by repeat (first | exact sH HB.out | refine sN (w := w) ?_ | with_reducible refine sG (w := w) ?_ (by assumption))) hb)
  (try clear hb)
  (try clear hb2)
  (try clear hk)
  (try clear hi)
  refine hK.out _ _ ⟨(blk_cell BK104.out 0).trans rfl, (blk_cell BK104.out 1).trans rfl, (blk_cell BK104.out 2).trans rfl, (blk_cell BK104.out 3).trans rfl⟩ (fun hHeld => ?_)
  clear hK K
  refine norm_ (a' := ?_) ?_ ?_
  rotate_left
  ·
   show Act.put _ (some 4) _ = _
   simp only [sP]
   rfl
  refine pu (i := 2) (N := some 5) (v := ?_) (a' := ?_) #[X,X,X,O,O,O,O,O,O,O,O] rfl rfl HT_ (by kernel_rfl) (fun _ _ _ h => h) ⟨by rfl, ?_⟩ ?_ ?_
  rotate_left; (intro w'; go_simp; with_reducible rfl); rotate_left; (simp only [sP]; rfl)
  refine pu (i := 5) (N := some 8) (v := ?_) (a' := ?_) #[X,X,X,O,O,X,O,O,O,O,O] rfl rfl HT_ (by kernel_rfl) (fun _ _ _ h => h) ⟨by rfl, ?_⟩ ?_ ?_
  rotate_left; (intro w'; go_simp; with_reducible rfl); rotate_left; (simp only [sP]; rfl)
  refine tu (i := 3) (N := some 6) (v := ?_) (a' := ?_) #[X,X,X,X,O,X,O,O,O,O,O] rfl rfl HT_ HW_ (by kernel_rfl) (fun _ _ _ h => h) ⟨by rfl, ?_⟩ hHeld ?_ ?_
  rotate_left; (rintro w' ⟨s0, s1, s2, s3⟩; go_simp; with_reducible rfl); rotate_left; (simp only [sP]; rfl)
  refine tu (i := 6) (N := some 9) (v := ?_) (a' := ?_) #[X,X,X,X,O,X,X,O,O,O,O] rfl rfl HT_ HW_ (by kernel_rfl) (fun _ _ _ h => h) ⟨by rfl, ?_⟩ hHeld ?_ ?_
  rotate_left; (rintro w' ⟨s0, s1, s2, s3⟩; go_simp; with_reducible rfl); rotate_left; (simp only [sP]; rfl)
  refine one_ (i := 4) (N := some 7) #[X,X,X,X,X,X,X,O,O,O,O] rfl rfl (one_of HT_.out (by kernel_rfl)) (by decide) (fun K hK => ?_)
  refine goes_ Try.func41 (by kernel_rfl) rfl #[.agg #[.int .i64 a0_0, .int .i64 a0_1, .int .i64 a0_2, .int .i64 a0_3]] (by rfl) rfl rfl (by (try simp only [sM]); first | done | rfl | (simp only [sT]; rfl)) ?_
  with_reducible refine (twoslotref06_N.calls a0_0 a0_1 a0_2 a0_3 t106 _ A4.out).mono ?_
  rintro e w8 ⟨rfl, hb⟩
  refine ⟨_, rfl, ?_⟩
  replace BK104 := kB BK104 hb; replace HB := Aside0.mk (below_step (by repeat (first | exact sH HB.out | refine sN (w := w) ?_ | with_reducible refine sG (w := w) ?_ (by assumption))) hb)
  (try clear hb)
  (try clear hb2)
  (try clear hk)
  (try clear hi)
  refine hK.out _ _ ⟨(blk_cell BK104.out 0).trans rfl, (blk_cell BK104.out 1).trans rfl, (blk_cell BK104.out 2).trans rfl, (blk_cell BK104.out 3).trans rfl⟩ (fun hHeld => ?_)
  clear hK K
  refine norm_ (a' := ?_) ?_ ?_
  rotate_left
  ·
   show Act.put _ (some 7) _ = _
   simp only [sP]
   rfl
  refine pu (i := 7) (N := some 10) (v := ?_) (a' := ?_) #[X,X,X,X,X,X,X,X,O,O,O] rfl rfl HT_ (by kernel_rfl) (fun _ _ _ h => h) ⟨by rfl, ?_⟩ ?_ ?_
  rotate_left; (intro w'; go_simp; with_reducible rfl); rotate_left; (simp only [sP]; rfl)
  refine pu (i := 8) (N := some 11) (v := ?_) (a' := ?_) #[X,X,X,X,X,X,X,X,X,O,O] rfl rfl HT_ (by kernel_rfl) (fun _ _ _ h => h) ⟨by rfl, ?_⟩ ?_ ?_
  rotate_left; (intro w'; go_simp; with_reducible rfl); rotate_left; (simp only [sP]; rfl)
  refine pu (i := 9) (N := some 12) (v := ?_) (a' := ?_) #[X,X,X,X,X,X,X,X,X,X,O] rfl rfl HT_ (by kernel_rfl) (fun _ _ _ h => h) ⟨by rfl, ?_⟩ ?_ ?_
  rotate_left; (intro w'; go_simp; with_reducible rfl); rotate_left; (simp only [sP]; rfl)
  refine pu (i := 10) (N := some 2) (v := ?_) (a' := ?_) #[X,X,X,X,X,X,X,X,X,X,X] rfl rfl HT_ (by kernel_rfl) (fun _ _ _ h => h) ⟨by rfl, ?_⟩ ?_ ?_
  rotate_left; (intro w'; go_simp; with_reducible rfl); rotate_left; (simp only [sP]; rfl)
  refine done_ (done_of HT_.out (by kernel_rfl)) ?_
  try go_wp2
  go_ret
  exact ⟨by first | rfl | (simp [errW_none, errW_some] <;> rfl) | (simp [*, errW_none, errW_some] <;> rfl), by repeat (first | exact sH HB.out | refine sN (w := w) ?_ | with_reducible refine sG (w := w) ?_ (by assumption))⟩
 ·
  replace c3 := Bool.eq_false_iff.mpr c3
  subst c3
  have H1 : (some false) = some r := by rw [if_neg (show ¬ (false = true) by decide)] at H; exact H
  clear H
  have H := H1
  clear H1
  obtain rfl := Option.some.inj H
  go_enter Try.func9, Try.ntmps9
  try go_wp2_with (first | ((with_reducible refine gate_dst (N := 1) rfl ?_); refine box_event rfl (N := 1) rfl (cs := #[.int .i64 a0_0, .int .i64 a0_1, .int .i64 a0_2, .int .i64 a0_3]) (t := 23) (by go_simp; try rfl) ?_; intro gb104 hg w9 hbox hb; have BK104 := Aside0.mk (hbox); have GW104 := Aside0.mk ((by rw [hg]; exact (sZ HB) : w.heap.size ≤ gb104)); have GE104 := Aside0.mk ((by rw [hg]; exact (sZ HB) : w.heap.size ≤ gb104)); replace HB := kH HB hb; clear hb hbox hg))
  replace BK104 := Aside0.mk (blk_drew BK104.out); replace HB := Aside0.mk (below_drew1 HB.out)
  refine start_ (n := 11) (S := fun w' => w'.cell? ⟨gb104, 0, none⟩ = some (.int .i64 a0_0) ∧ w'.cell? ⟨gb104, 1, none⟩ = some (.int .i64 a0_1) ∧ w'.cell? ⟨gb104, 2, none⟩ = some (.int .i64 a0_2) ∧ w'.cell? ⟨gb104, 3, none⟩ = some (.int .i64 a0_3)) (ds := []) #[O,O,O,O,O,O,O,O,O,O,O] (by kernel_rfl) rfl rfl ⟨(blk_cell BK104.out 0).trans rfl, (blk_cell BK104.out 1).trans rfl, (blk_cell BK104.out 2).trans rfl, (blk_cell BK104.out 3).trans rfl⟩ (fun hHeld => ?_); refine with_tabW twoslotlaw08_big.tab1 twoslotlaw08_big.bits1 (fun HT_ HW_ => ?_)
  generalize w9.drew = w10 at BK104 HB hHeld ⊢
  refine tu (i := 0) (N := some 3) (v := ?_) (a' := ?_) #[X,O,O,O,O,O,O,O,O,O,O] rfl rfl HT_ HW_ (by kernel_rfl) (fun _ _ _ h => h) ⟨by rfl, ?_⟩ hHeld ?_ ?_
  rotate_left; (rintro w' ⟨s0, s1, s2, s3⟩; go_simp; with_reducible rfl); rotate_left; (simp only [sP]; rfl)
  refine one_ (i := 1) (N := some 4) #[X,X,O,O,O,O,O,O,O,O,O] rfl rfl (one_of HT_.out (by kernel_rfl)) (by decide) (fun K hK => ?_)
  refine goes_ Try.func40 (by kernel_rfl) rfl #[.agg #[.int .i64 a0_0, .int .i64 a0_1, .int .i64 a0_2, .int .i64 a0_3]] (by rfl) rfl rfl (by (try simp only [sM]); first | done | rfl | (simp only [sT]; rfl)) ?_
  with_reducible refine (twoslotref06_May.calls a0_0 a0_1 a0_2 a0_3 false _ A2.out).mono ?_
  rintro e w11 ⟨rfl, hb⟩
  refine ⟨_, rfl, ?_⟩
  replace BK104 := kB BK104 hb; replace HB := Aside0.mk (below_step (by repeat (first | exact sH HB.out | refine sN (w := w) ?_ | with_reducible refine sG (w := w) ?_ (by assumption))) hb)
  (try clear hb)
  (try clear hb2)
  (try clear hk)
  (try clear hi)
  refine hK.out _ _ ⟨(blk_cell BK104.out 0).trans rfl, (blk_cell BK104.out 1).trans rfl, (blk_cell BK104.out 2).trans rfl, (blk_cell BK104.out 3).trans rfl⟩ (fun hHeld => ?_)
  clear hK K
  refine norm_ (a' := ?_) ?_ ?_
  rotate_left
  ·
   show Act.put _ (some 4) _ = _
   simp only [sP]
   rfl
  refine pu (i := 2) (N := some 5) (v := ?_) (a' := ?_) #[X,X,X,O,O,O,O,O,O,O,O] rfl rfl HT_ (by kernel_rfl) (fun _ _ _ h => h) ⟨by rfl, ?_⟩ ?_ ?_
  rotate_left; (intro w'; go_simp; with_reducible rfl); rotate_left; (simp only [sP]; rfl)
  refine pure_ (i := 3) (N := some 6) (v := undef) (a' := ?_) #[X,X,X,X,O,O,O,O,O,O,O] rfl rfl (any_of HT_.out (by kernel_rfl)) (fun _ _ _ h => h) (Or.inr ⟨by rfl, rfl⟩) ?_ ?_
  rotate_left
  ·
   simp only [sP]
   rfl
  refine pure_ (i := 4) (N := some 7) (v := undef) (a' := ?_) #[X,X,X,X,X,O,O,O,O,O,O] rfl rfl (any_of HT_.out (by kernel_rfl)) (fun _ _ _ h => h) (Or.inr ⟨by rfl, rfl⟩) ?_ ?_
  rotate_left
  ·
   simp only [sP]
   rfl
  refine pure_ (i := 5) (N := some 8) (v := undef) (a' := ?_) #[X,X,X,X,X,X,O,O,O,O,O] rfl rfl (any_of HT_.out (by kernel_rfl)) (fun _ _ _ h => h) (Or.inr ⟨by rfl, rfl⟩) ?_ ?_
  rotate_left
  ·
   simp only [sP]
   rfl
  refine pure_ (i := 6) (N := some 9) (v := undef) (a' := ?_) #[X,X,X,X,X,X,X,O,O,O,O] rfl rfl (any_of HT_.out (by kernel_rfl)) (fun _ _ _ h => h) (Or.inr ⟨by rfl, rfl⟩) ?_ ?_
  rotate_left
  ·
   simp only [sP]
   rfl
  refine pure_ (i := 7) (N := some 10) (v := undef) (a' := ?_) #[X,X,X,X,X,X,X,X,O,O,O] rfl rfl (any_of HT_.out (by kernel_rfl)) (fun _ _ _ h => h) (Or.inr ⟨by rfl, rfl⟩) ?_ ?_
  rotate_left
  ·
   simp only [sP]
   rfl
  refine pure_ (i := 8) (N := some 11) (v := undef) (a' := ?_) #[X,X,X,X,X,X,X,X,X,O,O] rfl rfl (any_of HT_.out (by kernel_rfl)) (fun _ _ _ h => h) (Or.inr ⟨by rfl, rfl⟩) ?_ ?_
  rotate_left
  ·
   simp only [sP]
   rfl
  refine pu (i := 9) (N := some 12) (v := ?_) (a' := ?_) #[X,X,X,X,X,X,X,X,X,X,O] rfl rfl HT_ (by kernel_rfl) (fun _ _ _ h => h) ⟨by rfl, ?_⟩ ?_ ?_
  rotate_left; (intro w'; go_simp; with_reducible rfl); rotate_left; (simp only [sP]; rfl)
  refine pu (i := 10) (N := some 2) (v := ?_) (a' := ?_) #[X,X,X,X,X,X,X,X,X,X,X] rfl rfl HT_ (by kernel_rfl) (fun _ _ _ h => h) ⟨by rfl, ?_⟩ ?_ ?_
  rotate_left; (intro w'; go_simp; with_reducible rfl); rotate_left; (simp only [sP]; rfl)
  refine done_ (done_of HT_.out (by kernel_rfl)) ?_
  try go_wp2
  go_ret
  exact ⟨by first | rfl | (simp [errW_none, errW_some] <;> rfl) | (simp [*, errW_none, errW_some] <;> rfl), by repeat (first | exact sH HB.out | refine sN (w := w) ?_ | with_reducible refine sG (w := w) ?_ (by assumption))⟩

end Go.Proofs.Ytemmhgfjfbdggaa.P

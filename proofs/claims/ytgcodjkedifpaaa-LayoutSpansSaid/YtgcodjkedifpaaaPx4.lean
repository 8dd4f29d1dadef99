-- Written by a program of this session, after the kit's print.
import Derived.Test.YtgcodjkedifpaaaPx0
import Derived.Test.YtgcodjkedifpaaaPx2
import Derived.Test.YtgcodjkedifpaaaPx3
namespace Go.Proofs.Ytgcodjkedifpaaa.P
open Go.RowKit Go.Proofs.YtgcodjkedifpaaaW.PrintWords Go.Proofs.YtgcodjkedifpaaaW.PrintLast Go.Proofs.YtgcodjkedifpaaaW.PrintMore
attribute [local go_sem] max2_int min2_int max_two min_two max_three min_three max_four min_four   -- for this text's walks alone
set_option linter.unusedVariables false
set_option linter.unusedSimpArgs false

/-! ### layout_Spans: function 21 (by hand) -/
set_option maxHeartbeats 8000000 in
set_option maxRecDepth 100000 in
theorem Spans_add (w0 : World) (aK R C Rw cell fr n off : Int) (go gp gf : Nat) (v : Value) (xs : List S34) (w : World)
    (BKgo0 : w.heap[go]? = some (.cells #[v] 30 (0, 0))) (BKgp0 : w.heap[gp]? = some (.cells #[.int .i64 aK, .int .i64 R, .int .i64 C, .int .i64 Rw] 23 (0, 0))) (BKgf0 : w.heap[gf]? = some (.cells #[.int .i64 off] 3 (0, 0)))
    (HO0 : Kd.R k34 34 w w0.heap.size (fun _ => True) v xs) (HB0 : Below w0.heap.size w0 w) (GEo : w0.heap.size ≤ go) (GEf : w0.heap.size ≤ gf) (hK0 : ¬ aK = 0) (hl : (xs.length + 1) * 32 ≤ 140737488355328) :
    Calls Try.prog 43 #[.int .i64 cell, .int .i64 fr, .int .i64 n, .pointer (some ⟨go, 0, none⟩), .pointer (some ⟨gp, 0, none⟩), .pointer (some ⟨gf, 0, none⟩)] w fun e w' => ∃ v1, e = .returned (.tuple #[]) ∧ w'.heap[go]? = some (.cells #[v1] 30 (0, 0)) ∧
      w'.heap[gp]? = some (.cells #[.int .i64 aK, .int .i64 R, .int .i64 C, .int .i64 Rw] 23 (0, 0)) ∧ w'.heap[gf]? = some (.cells #[.int .i64 (wrap64 (off + n))] 3 (0, 0)) ∧ Kd.R k34 34 w' w0.heap.size (fun _ => True) v1 (xs ++ [(⟨wrap64 (Int.tdiv cell aK), Int.tmod cell aK, fr, wrap64 (fr + n)⟩ : S34)]) ∧ Below w0.heap.size w0 w' := by
  have hu := Try.underlying23
  have hK1 : (aK == 0) = false := beq_eq_false_iff_ne.mpr hK0
  have hK2 : (aK != 0) = true := bne_iff_ne.mpr hK0
  have GO := Aside0.mk GEo
  have GF := Aside0.mk GEf
  have HL := Aside0.mk hl
  have BKgo := Aside0.mk BKgo0
  have BKgp := Aside0.mk BKgp0
  have BKgf := Aside0.mk BKgf0
  have HB := Aside0.mk HB0
  have HO := Aside0.mk HO0
  clear GEo GEf hl BKgo0 BKgp0 BKgf0 HB0 HO0
  go_enter Try.func43, Try.ntmps43
  try go_wp2_with (fail)
  have n0_ := Aside0.mk (below_drew1 HB.out)
  clear HB
  have HB := n0_
  clear n0_
  have nH_ := Aside0.mk (Kd.R_drew HO.out)
  clear HO
  have HO := nH_
  clear nH_
  have n1_ := Aside0.mk (blk_drew BKgo.out)
  clear BKgo
  have BKgo := n1_
  clear n1_
  have n1_ := Aside0.mk (blk_drew BKgp.out)
  clear BKgp
  have BKgp := n1_
  clear n1_
  have n1_ := Aside0.mk (blk_drew BKgf.out)
  clear BKgf
  have BKgf := n1_
  clear n1_
  refine start_ (n := 17) (S := fun w' => w'.cell? ⟨go, 0, none⟩ = some (v) ∧ w'.cell? ⟨gp, 0, none⟩ = some (.int .i64 aK) ∧ w'.cell? ⟨gp, 1, none⟩ = some (.int .i64 R) ∧ w'.cell? ⟨gp, 2, none⟩ = some (.int .i64 C) ∧ w'.cell? ⟨gp, 3, none⟩ = some (.int .i64 Rw) ∧ w'.cell? ⟨gf, 0, none⟩ = some (.int .i64 off)) (ds := [16]) #[false, false, false, false, false, false, false, false, false, false, false, false, false, false, false, false, false] (by kernel_rfl) rfl rfl ⟨(blk_cell BKgo.out 0).trans rfl, (blk_cell BKgp.out 0).trans rfl, (blk_cell BKgp.out 1).trans rfl, (blk_cell BKgp.out 2).trans rfl, (blk_cell BKgp.out 3).trans rfl, (blk_cell BKgf.out 0).trans rfl⟩ (fun hHeld => ?_)
  generalize World.drew _ = w1 at BKgo BKgp BKgf HB HO hHeld ⊢
  refine pure_ (i := 1) (N := some 10) (v := ?_) (a' := ?_) #[false, true, false, false, false, false, false, false, false, false, false, false, false, false, false, false, false] rfl rfl (by kernel_rfl) (fun _ _ _ h => h) (Or.inl ⟨by rfl, ?_⟩) ?_ ?_
  rotate_left
  · intro w'
    go_simp
    with_reducible rfl
  rotate_left
  · simp only [Act.put, List.setIfInBounds_toArray, List.set_cons_zero, List.set_cons_succ, i64_w, i32_w]
    rfl
  refine pure_ (i := 2) (N := some 11) (v := ?_) (a' := ?_) #[false, true, true, false, false, false, false, false, false, false, false, false, false, false, false, false, false] rfl rfl (by kernel_rfl) (fun _ _ _ h => h) (Or.inl ⟨by rfl, ?_⟩) ?_ ?_
  rotate_left
  · intro w'
    go_simp
    with_reducible rfl
  rotate_left
  · simp only [Act.put, List.setIfInBounds_toArray, List.set_cons_zero, List.set_cons_succ, i64_w, i32_w]
    rfl
  refine pure_ (i := 5) (N := some 14) (v := ?_) (a' := ?_) #[false, true, true, false, false, true, false, false, false, false, false, false, false, false, false, false, false] rfl rfl (by kernel_rfl) (fun _ _ _ h => h) (Or.inl ⟨by rfl, ?_⟩) ?_ ?_
  rotate_left
  · intro w'
    go_simp
    with_reducible rfl
  rotate_left
  · simp only [Act.put, List.setIfInBounds_toArray, List.set_cons_zero, List.set_cons_succ, i64_w, i32_w]
    rfl
  refine pure_ (i := 6) (N := some 15) (v := ?_) (a' := ?_) #[false, true, true, false, false, true, true, false, false, false, false, false, false, false, false, false, false] rfl rfl (by kernel_rfl) (fun _ _ _ h => h) (Or.inl ⟨by rfl, ?_⟩) ?_ ?_
  rotate_left
  · intro w'
    go_simp
    with_reducible rfl
  rotate_left
  · simp only [Act.put, List.setIfInBounds_toArray, List.set_cons_zero, List.set_cons_succ, i64_w, i32_w]
    rfl
  refine pure_ (i := 9) (N := some 18) (v := ?_) (a' := ?_) #[false, true, true, false, false, true, true, false, false, true, false, false, false, false, false, false, false] rfl rfl (by kernel_rfl) (fun _ _ _ h => h) (Or.inl ⟨by rfl, ?_⟩) ?_ ?_
  rotate_left
  · intro w'
    go_simp
    with_reducible rfl
  rotate_left
  · simp only [Act.put, List.setIfInBounds_toArray, List.set_cons_zero, List.set_cons_succ, i64_w, i32_w]
    rfl
  refine pure_ (i := 10) (N := some 19) (v := ?_) (a' := ?_) #[false, true, true, false, false, true, true, false, false, true, true, false, false, false, false, false, false] rfl rfl (by kernel_rfl) (fun _ _ _ h => h) (Or.inl ⟨by rfl, ?_⟩) ?_ ?_
  rotate_left
  · intro w'
    go_simp
    with_reducible rfl
  rotate_left
  · simp only [Act.put, List.setIfInBounds_toArray, List.set_cons_zero, List.set_cons_succ, i64_w, i32_w]
    rfl
  refine pure_ (i := 11) (N := some 20) (v := ?_) (a' := ?_) #[false, true, true, false, false, true, true, false, false, true, true, true, false, false, false, false, false] rfl rfl (by kernel_rfl) (fun _ _ _ h => h) (Or.inl ⟨by rfl, ?_⟩) ?_ ?_
  rotate_left
  · intro w'
    go_simp
    with_reducible rfl
  rotate_left
  · simp only [Act.put, List.setIfInBounds_toArray, List.set_cons_zero, List.set_cons_succ, i64_w, i32_w]
    rfl
  refine pure_ (i := 12) (N := some 21) (v := ?_) (a' := ?_) #[false, true, true, false, false, true, true, false, false, true, true, true, true, false, false, false, false] rfl rfl (by kernel_rfl) (fun _ _ _ h => h) (Or.inl ⟨by rfl, ?_⟩) ?_ ?_
  rotate_left
  · intro w'
    go_simp
    with_reducible rfl
  rotate_left
  · simp only [Act.put, List.setIfInBounds_toArray, List.set_cons_zero, List.set_cons_succ, i64_w, i32_w]
    rfl
  refine take_ (i := 0) (N := some 9) (v := ?_) (a' := ?_) #[true, true, true, false, false, true, true, false, false, true, true, true, true, false, false, false, false] rfl rfl (by kernel_rfl) (fun _ _ _ h => h) (Or.inl ⟨by rfl, ?_⟩) hHeld ?_ ?_
  rotate_left
  · rintro w' ⟨s0, s1, s2, s3, s4, s5⟩
    go_simp
    with_reducible rfl
  rotate_left
  · simp only [Act.put, List.setIfInBounds_toArray, List.set_cons_zero, List.set_cons_succ, i64_w, i32_w]
    rfl
  refine take_ (i := 3) (N := some 12) (v := ?_) (a' := ?_) #[true, true, true, true, false, true, true, false, false, true, true, true, true, false, false, false, false] rfl rfl (by kernel_rfl) (fun _ _ _ h => h) (Or.inl ⟨by rfl, ?_⟩) hHeld ?_ ?_
  rotate_left
  · rintro w' ⟨s0, s1, s2, s3, s4, s5⟩
    go_simp
    with_reducible rfl
  rotate_left
  · simp only [Act.put, List.setIfInBounds_toArray, List.set_cons_zero, List.set_cons_succ, i64_w, i32_w]
    rfl
  refine pure_ (i := 4) (N := some 13) (v := ?_) (a' := ?_) #[true, true, true, true, true, true, true, false, false, true, true, true, true, false, false, false, false] rfl rfl (by kernel_rfl) (fun _ _ _ h => h) (Or.inl ⟨by rfl, ?_⟩) ?_ ?_
  rotate_left
  · intro w'
    go_simp
    with_reducible rfl
  rotate_left
  · simp only [Act.put, List.setIfInBounds_toArray, List.set_cons_zero, List.set_cons_succ, i64_w, i32_w]
    rfl
  refine take_ (i := 7) (N := some 16) (v := ?_) (a' := ?_) #[true, true, true, true, true, true, true, true, false, true, true, true, true, false, false, false, false] rfl rfl (by kernel_rfl) (fun _ _ _ h => h) (Or.inl ⟨by rfl, ?_⟩) hHeld ?_ ?_
  rotate_left
  · rintro w' ⟨s0, s1, s2, s3, s4, s5⟩
    go_simp
    with_reducible rfl
  rotate_left
  · simp only [Act.put, List.setIfInBounds_toArray, List.set_cons_zero, List.set_cons_succ, i64_w, i32_w]
    rfl
  refine pure_ (i := 8) (N := some 17) (v := ?_) (a' := ?_) #[true, true, true, true, true, true, true, true, true, true, true, true, true, false, false, false, false] rfl rfl (by kernel_rfl) (fun _ _ _ h => h) (Or.inl ⟨by rfl, ?_⟩) ?_ ?_
  rotate_left
  · intro w'
    go_simp
    with_reducible rfl
  rotate_left
  · simp only [Act.put, List.setIfInBounds_toArray, List.set_cons_zero, List.set_cons_succ, i64_w, i32_w]
    rfl
  refine pure_ (i := 13) (N := some 22) (v := ?_) (a' := ?_) #[true, true, true, true, true, true, true, true, true, true, true, true, true, true, false, false, false] rfl rfl (by kernel_rfl) (fun _ _ _ h => h) (Or.inl ⟨by rfl, ?_⟩) ?_ ?_
  rotate_left
  · intro w'
    go_simp
    with_reducible rfl
  rotate_left
  · simp only [Act.put, List.setIfInBounds_toArray, List.set_cons_zero, List.set_cons_succ, i64_w, i32_w]
    rfl
  refine one_ (i := 14) (N := some 23) #[true, true, true, true, true, true, true, true, true, true, true, true, true, true, true, false, false] rfl rfl (by kernel_rfl) (by decide) (fun K hK => ?_)
  refine value_ (w1 := ?_) (v := ?_) (by rfl) rfl ?_ ?_
  rotate_left 2
  · go_simp
    constructor
    · rfl
    · rfl
  refine hK.out _ _ ⟨(blk_cell (blk_alloc BKgo.out _) 0).trans rfl, (blk_cell (blk_alloc BKgp.out _) 0).trans rfl, (blk_cell (blk_alloc BKgp.out _) 1).trans rfl, (blk_cell (blk_alloc BKgp.out _) 2).trans rfl, (blk_cell (blk_alloc BKgp.out _) 3).trans rfl, (blk_cell (blk_alloc BKgf.out _) 0).trans rfl⟩ (fun hHeld => ?_)
  clear hK K
  refine norm_ (a' := ?_) ?_ ?_
  rotate_left
  · show Act.put _ (some 23) _ = _
    simp only [Act.put, List.setIfInBounds_toArray, List.set_cons_zero, List.set_cons_succ, i64_w, i32_w]
    rfl
  refine one_ (i := 15) (N := some 24) #[true, true, true, true, true, true, true, true, true, true, true, true, true, true, true, true, false] rfl rfl (by kernel_rfl) (by decide) (fun K hK => ?_)
  refine Kd.R_append_step k34 (w0 := w0) w0.heap.size (by rfl) (.tmp 9) (.tmp 23) 30 34 (.agg #[(.int .i64 0), (.int .i64 0), (.int .i64 0), (.int .i64 0)]) 32 rfl Try.underlying30 info34 rfl (by decide) (by omega) v xs (⟨wrap64 (Int.tdiv cell aK), Int.tmod cell aK, fr, wrap64 (fr + n)⟩ : S34) [.int .i64 (wrap64 (Int.tdiv cell aK)), .int .i64 (Int.tmod cell aK), .int .i64 fr, .int .i64 (wrap64 (fr + n))] (fun _ => True) (fun _ => False) rfl rfl ?aP (fun _ hk => hk.elim) ?aF ?aO ?aB ?aS ?aL ?_
  (case aP => exact k34_mkM _ _ _ (⟨wrap64 (Int.tdiv cell aK), Int.tmod cell aK, fr, wrap64 (fr + n)⟩ : S34))
  (case aB => exact HB.out)
  (case aF => exact (fun _ _ => trivial))
  (case aO => exact HO.out)
  (case aS => exact HB.out.size)
  (case aL => have := HL.out; omega)
  intro v1 w5 ho hb hg hat
  have n_go := Aside0.mk (blk_grown BKgo.out hg (Kd.R_ne HO.out BKgo.out (by decide)))
  have n_gp := Aside0.mk (blk_grown BKgp.out hg (Kd.R_ne HO.out BKgp.out (by decide)))
  have n_gf := Aside0.mk (blk_grown BKgf.out hg (Kd.R_ne HO.out BKgf.out (by decide)))
  clear BKgo BKgp BKgf HB HO
  have BKgo := n_go
  have BKgp := n_gp
  have BKgf := n_gf
  have HB := Aside0.mk hb
  have HO := Aside0.mk ho
  clear n_go n_gp n_gf hb ho hg hat
  refine hK.out _ _ ⟨(blk_cell BKgo.out 0).trans rfl, (blk_cell BKgp.out 0).trans rfl, (blk_cell BKgp.out 1).trans rfl, (blk_cell BKgp.out 2).trans rfl, (blk_cell BKgp.out 3).trans rfl, (blk_cell BKgf.out 0).trans rfl⟩ (fun hHeld => ?_)
  clear hK K
  refine norm_ (a' := ?_) ?_ ?_
  rotate_left
  · show Act.put _ (some 24) _ = _
    simp only [Act.put, List.setIfInBounds_toArray, List.set_cons_zero, List.set_cons_succ, i64_w, i32_w]
    rfl
  refine last_ (i := 16) (N := none) #[true, true, true, true, true, true, true, true, true, true, true, true, true, true, true, true, true] rfl rfl (by kernel_rfl) (by decide) (fun K hK => ?_)
  obtain ⟨Ax, cx, ex⟩ := Kd.R_slice HO.out
  generalize List.length _ = lz at ex
  subst ex
  have hcx : w5.cell? ⟨go, 0, none⟩ = some v := (blk_cell BKgo.out 0).trans rfl
  have hfx := blk_frozen BKgo.out 0
  refine skip_ (w1 := ?_) (by rfl) rfl ?_ ?_
  rotate_left
  · go_simp
    rfl
  refine hK.out _ _ ?_
  clear hK K
  refine done_ (by kernel_rfl) ?_
  have m1 := Aside0.mk (blk_put BKgo.out 0 (.slice Ax lz cx) rfl)
  have m2 := Aside0.mk (blk_far BKgp.out (p := ⟨go, 0, none⟩) (blk_ne BKgp.out BKgo.out (by decide)) (.slice Ax lz cx))
  have m3 := Aside0.mk (blk_far BKgf.out (p := ⟨go, 0, none⟩) (blk_ne BKgf.out BKgo.out (by decide)) (.slice Ax lz cx))
  have m4 := Aside0.mk (below_set HB.out GO.out (j := 0) (v := .slice Ax lz cx))
  have m5 := Aside0.mk (Kd.R_set HO.out BKgo.out (by decide) 0 (.slice Ax lz cx))
  clear BKgo BKgp BKgf HB HO hcx hfx
  generalize w5.setCell ⟨go, 0, none⟩ (.slice Ax lz cx) = w6 at m1 m2 m3 m4 m5 ⊢
  have hcf : w6.cell? ⟨gf, 0, none⟩ = some (.int .i64 off) := (blk_cell m3.out 0).trans rfl
  have hff := blk_frozen m3.out 0
  go_wp2
  go_end0
  refine ⟨.slice Ax lz cx, rfl, ?_, ?_, ?_, ?_, ?_⟩
  · exact blk_far m1.out (p := ⟨gf, 0, none⟩) (blk_ne m1.out m3.out (by decide)) _
  · exact blk_far m2.out (p := ⟨gf, 0, none⟩) (blk_ne m2.out m3.out (by decide)) _
  · exact blk_put m3.out 0 _ rfl
  · exact Kd.R_set m5.out m3.out (by decide) 0 _
  · exact below_set m4.out GF.out
/-- The parts of a range of bytes: n bounds their number. -/
def spansGo (aK C e : Int) : Nat → Int → List S34
  | 0, _ => []
  | n + 1, x => if x < e then (⟨x / C / aK, x / C % aK, x % C, x % C + min (C - x % C) (e - x)⟩ : S34) :: spansGo aK C e n (x + min (C - x % C) (e - x)) else []
theorem spansGo_done (aK C e : Int) (n : Nat) (x : Int) (h : ¬ x < e) : spansGo aK C e n x = [] := by
  cases n with
  | zero => rfl
  | succ n => unfold spansGo; rw [if_neg h]
def layout_Spans.f (a0_0 : Int) (a0_1 : Int) (a0_2 : Int) (a0_3 : Int) (a1 : Int) (a2 : Int) : Option ((List (S34)) × Int) :=
  some (if okP a0_0 a0_1 a0_2 a0_3 = true then (if a1 < 0 ∨ a2 < 0 then ([], 2) else if a1 > mostOf (a0_0 * a0_2) ∨ a2 > mostOf (a0_0 * a0_2) - a1 then ([], 3) else (spansGo a0_0 a0_2 (a1 + a2) a2.toNat a1, 0)) else ([], 2))

set_option maxHeartbeats 8000000 in
set_option maxRecDepth 100000 in
theorem Spans_bad (a0_0 a0_1 a0_2 a0_3 a1 a2 : Int) (w : World) (hk : okP a0_0 a0_1 a0_2 a0_3 = false) :
    Calls Try.prog 21 #[.agg #[.int .i64 a0_0, .int .i64 a0_1, .int .i64 a0_2, .int .i64 a0_3], .int .i64 a1, .int .i64 a2] w fun e w' => ∃ v0_ : Value, e = .returned (.tuple #[v0_, .int .i64 2]) ∧ Kd.R k34 34 w' w.heap.size (fun _ => True) v0_ [] ∧ Below w.heap.size w w' := by
  have hu := Try.underlying23
  have HB := Aside0.mk (Below.refl w.heap.size w)
  have HC := Aside0.mk (show layout_Check.f a0_0 a0_1 a0_2 a0_3 = some 2 by simp [layout_Check.f, hk])
  clear hk
  go_enter Try.func21, Try.ntmps21
  go_wp2_with (first | ((with_reducible refine gate_dst (N := 3) rfl ?_); refine box_event ?hg (N := 3) ?hd (cs := #[.int .i64 a0_0, .int .i64 a0_1, .int .i64 a0_2, .int .i64 a0_3]) (t := 23) ?hr ?_; (case hd => rfl); (case hg => rfl); (case hr => first | (go_simp; done) | (go_simp; rfl)); intro gp hg w1 hbox hb; have n2_ := Aside0.mk ((by rw [hg]; exact (below_size (by repeat (first | (with_reducible first | exact HB.out | apply below_alloc | apply pw_below_drewN | apply below_drew1) | exact HB.out)))) : w.heap.size ≤ gp); have n0_ := Aside0.mk (below_step (by repeat (first | (with_reducible first | exact HB.out | apply below_alloc | apply pw_below_drewN | apply below_drew1) | exact HB.out)) hb); clear HB; have HB := n0_; clear n0_; have BKgp := Aside0.mk hbox; have GEgp := n2_; clear n2_ hb hbox hg; have hcgp_0 : w1.cell? ⟨gp, 0, none⟩ = some (.int .i64 a0_0) := (blk_cell BKgp.out 0).trans rfl; have hcgp_1 : w1.cell? ⟨gp, 1, none⟩ = some (.int .i64 a0_1) := (blk_cell BKgp.out 1).trans rfl; have hcgp_2 : w1.cell? ⟨gp, 2, none⟩ = some (.int .i64 a0_2) := (blk_cell BKgp.out 2).trans rfl; have hcgp_3 : w1.cell? ⟨gp, 3, none⟩ = some (.int .i64 a0_3) := (blk_cell BKgp.out 3).trans rfl) | ((with_reducible refine gate_dst (N := 4) rfl ?_); refine box_event ?hg (N := 4) ?hd (cs := #[.int .i64 a1]) (t := 3) ?hr ?_; (case hd => rfl); (case hg => rfl); (case hr => first | (go_simp; done) | (go_simp; rfl)); intro gf hg w2 hbox hb; have n2_ := Aside0.mk ((by rw [hg]; exact (below_size (by repeat (first | (with_reducible first | exact HB.out | apply below_alloc | apply pw_below_drewN | apply below_drew1) | exact HB.out)))) : w.heap.size ≤ gf); have n0_ := Aside0.mk (below_step (by repeat (first | (with_reducible first | exact HB.out | apply below_alloc | apply pw_below_drewN | apply below_drew1) | exact HB.out)) hb); clear HB; have HB := n0_; clear n0_; have n1_ := Aside0.mk (blk_below BKgp.out hb); clear BKgp; have BKgp := n1_; clear n1_; have BKgf := Aside0.mk hbox; have GEgf := n2_; clear n2_ hb hbox hg; have hcgp_0 : w2.cell? ⟨gp, 0, none⟩ = some (.int .i64 a0_0) := (blk_cell BKgp.out 0).trans rfl; have hcgp_1 : w2.cell? ⟨gp, 1, none⟩ = some (.int .i64 a0_1) := (blk_cell BKgp.out 1).trans rfl; have hcgp_2 : w2.cell? ⟨gp, 2, none⟩ = some (.int .i64 a0_2) := (blk_cell BKgp.out 2).trans rfl; have hcgp_3 : w2.cell? ⟨gp, 3, none⟩ = some (.int .i64 a0_3) := (blk_cell BKgp.out 3).trans rfl; have hcgf_0 : w2.cell? ⟨gf, 0, none⟩ = some (.int .i64 a1) := (blk_cell BKgf.out 0).trans rfl) | (go_at_call 19; (with_reducible refine (layout_Check.calls a0_0 a0_1 a0_2 a0_3 _ _ HC.out).mono ?_); rintro e w3 ⟨rfl, hb⟩; have n0_ := Aside0.mk (below_step (by repeat (first | (with_reducible first | exact HB.out | apply below_alloc | apply pw_below_drewN | apply below_drew1) | exact HB.out)) hb); clear HB; have HB := n0_; clear n0_; have n1_ := Aside0.mk (blk_below BKgp.out hb); clear BKgp; have BKgp := n1_; clear n1_; have n1_ := Aside0.mk (blk_below BKgf.out hb); clear BKgf; have BKgf := n1_; clear n1_; clear hb; have hcgp_0 : w3.cell? ⟨gp, 0, none⟩ = some (.int .i64 a0_0) := (blk_cell BKgp.out 0).trans rfl; have hcgp_1 : w3.cell? ⟨gp, 1, none⟩ = some (.int .i64 a0_1) := (blk_cell BKgp.out 1).trans rfl; have hcgp_2 : w3.cell? ⟨gp, 2, none⟩ = some (.int .i64 a0_2) := (blk_cell BKgp.out 2).trans rfl; have hcgp_3 : w3.cell? ⟨gp, 3, none⟩ = some (.int .i64 a0_3) := (blk_cell BKgp.out 3).trans rfl; have hcgf_0 : w3.cell? ⟨gf, 0, none⟩ = some (.int .i64 a1) := (blk_cell BKgf.out 0).trans rfl))
  go_ret2
  exact ⟨_, rfl, Kd.R_nil _ _ _ _ _, HB.out⟩
set_option maxHeartbeats 8000000 in
set_option maxRecDepth 100000 in
theorem Spans_neg1 (a0_0 a0_1 a0_2 a0_3 a1 a2 : Int) (w : World) (hk : okP a0_0 a0_1 a0_2 a0_3 = true) (h1 : decide (a1 < 0) = true) :
    Calls Try.prog 21 #[.agg #[.int .i64 a0_0, .int .i64 a0_1, .int .i64 a0_2, .int .i64 a0_3], .int .i64 a1, .int .i64 a2] w fun e w' => ∃ v0_ : Value, e = .returned (.tuple #[v0_, .int .i64 2]) ∧ Kd.R k34 34 w' w.heap.size (fun _ => True) v0_ [] ∧ Below w.heap.size w w' := by
  have hu := Try.underlying23
  have HB := Aside0.mk (Below.refl w.heap.size w)
  have HC := Aside0.mk (show layout_Check.f a0_0 a0_1 a0_2 a0_3 = some 0 by simp [layout_Check.f, hk])
  clear hk
  go_enter Try.func21, Try.ntmps21
  go_wp2_with (first | ((with_reducible refine gate_dst (N := 3) rfl ?_); refine box_event ?hg (N := 3) ?hd (cs := #[.int .i64 a0_0, .int .i64 a0_1, .int .i64 a0_2, .int .i64 a0_3]) (t := 23) ?hr ?_; (case hd => rfl); (case hg => rfl); (case hr => first | (go_simp; done) | (go_simp; rfl)); intro gp hg w1 hbox hb; have n2_ := Aside0.mk ((by rw [hg]; exact (below_size (by repeat (first | (with_reducible first | exact HB.out | apply below_alloc | apply pw_below_drewN | apply below_drew1) | exact HB.out)))) : w.heap.size ≤ gp); have n0_ := Aside0.mk (below_step (by repeat (first | (with_reducible first | exact HB.out | apply below_alloc | apply pw_below_drewN | apply below_drew1) | exact HB.out)) hb); clear HB; have HB := n0_; clear n0_; have BKgp := Aside0.mk hbox; have GEgp := n2_; clear n2_ hb hbox hg; have hcgp_0 : w1.cell? ⟨gp, 0, none⟩ = some (.int .i64 a0_0) := (blk_cell BKgp.out 0).trans rfl; have hcgp_1 : w1.cell? ⟨gp, 1, none⟩ = some (.int .i64 a0_1) := (blk_cell BKgp.out 1).trans rfl; have hcgp_2 : w1.cell? ⟨gp, 2, none⟩ = some (.int .i64 a0_2) := (blk_cell BKgp.out 2).trans rfl; have hcgp_3 : w1.cell? ⟨gp, 3, none⟩ = some (.int .i64 a0_3) := (blk_cell BKgp.out 3).trans rfl) | ((with_reducible refine gate_dst (N := 4) rfl ?_); refine box_event ?hg (N := 4) ?hd (cs := #[.int .i64 a1]) (t := 3) ?hr ?_; (case hd => rfl); (case hg => rfl); (case hr => first | (go_simp; done) | (go_simp; rfl)); intro gf hg w2 hbox hb; have n2_ := Aside0.mk ((by rw [hg]; exact (below_size (by repeat (first | (with_reducible first | exact HB.out | apply below_alloc | apply pw_below_drewN | apply below_drew1) | exact HB.out)))) : w.heap.size ≤ gf); have n0_ := Aside0.mk (below_step (by repeat (first | (with_reducible first | exact HB.out | apply below_alloc | apply pw_below_drewN | apply below_drew1) | exact HB.out)) hb); clear HB; have HB := n0_; clear n0_; have n1_ := Aside0.mk (blk_below BKgp.out hb); clear BKgp; have BKgp := n1_; clear n1_; have BKgf := Aside0.mk hbox; have GEgf := n2_; clear n2_ hb hbox hg; have hcgp_0 : w2.cell? ⟨gp, 0, none⟩ = some (.int .i64 a0_0) := (blk_cell BKgp.out 0).trans rfl; have hcgp_1 : w2.cell? ⟨gp, 1, none⟩ = some (.int .i64 a0_1) := (blk_cell BKgp.out 1).trans rfl; have hcgp_2 : w2.cell? ⟨gp, 2, none⟩ = some (.int .i64 a0_2) := (blk_cell BKgp.out 2).trans rfl; have hcgp_3 : w2.cell? ⟨gp, 3, none⟩ = some (.int .i64 a0_3) := (blk_cell BKgp.out 3).trans rfl; have hcgf_0 : w2.cell? ⟨gf, 0, none⟩ = some (.int .i64 a1) := (blk_cell BKgf.out 0).trans rfl) | (go_at_call 19; (with_reducible refine (layout_Check.calls a0_0 a0_1 a0_2 a0_3 _ _ HC.out).mono ?_); rintro e w3 ⟨rfl, hb⟩; have n0_ := Aside0.mk (below_step (by repeat (first | (with_reducible first | exact HB.out | apply below_alloc | apply pw_below_drewN | apply below_drew1) | exact HB.out)) hb); clear HB; have HB := n0_; clear n0_; have n1_ := Aside0.mk (blk_below BKgp.out hb); clear BKgp; have BKgp := n1_; clear n1_; have n1_ := Aside0.mk (blk_below BKgf.out hb); clear BKgf; have BKgf := n1_; clear n1_; clear hb; have hcgp_0 : w3.cell? ⟨gp, 0, none⟩ = some (.int .i64 a0_0) := (blk_cell BKgp.out 0).trans rfl; have hcgp_1 : w3.cell? ⟨gp, 1, none⟩ = some (.int .i64 a0_1) := (blk_cell BKgp.out 1).trans rfl; have hcgp_2 : w3.cell? ⟨gp, 2, none⟩ = some (.int .i64 a0_2) := (blk_cell BKgp.out 2).trans rfl; have hcgp_3 : w3.cell? ⟨gp, 3, none⟩ = some (.int .i64 a0_3) := (blk_cell BKgp.out 3).trans rfl; have hcgf_0 : w3.cell? ⟨gf, 0, none⟩ = some (.int .i64 a1) := (blk_cell BKgf.out 0).trans rfl))
  go_ret2
  exact ⟨_, rfl, Kd.R_nil _ _ _ _ _, HB.out⟩
set_option maxHeartbeats 8000000 in
set_option maxRecDepth 100000 in
theorem Spans_neg2 (a0_0 a0_1 a0_2 a0_3 a1 a2 : Int) (w : World) (hk : okP a0_0 a0_1 a0_2 a0_3 = true) (h1 : decide (a1 < 0) = false) (h2 : decide (a2 < 0) = true) :
    Calls Try.prog 21 #[.agg #[.int .i64 a0_0, .int .i64 a0_1, .int .i64 a0_2, .int .i64 a0_3], .int .i64 a1, .int .i64 a2] w fun e w' => ∃ v0_ : Value, e = .returned (.tuple #[v0_, .int .i64 2]) ∧ Kd.R k34 34 w' w.heap.size (fun _ => True) v0_ [] ∧ Below w.heap.size w w' := by
  have hu := Try.underlying23
  have HB := Aside0.mk (Below.refl w.heap.size w)
  have HC := Aside0.mk (show layout_Check.f a0_0 a0_1 a0_2 a0_3 = some 0 by simp [layout_Check.f, hk])
  clear hk
  go_enter Try.func21, Try.ntmps21
  go_wp2_with (first | ((with_reducible refine gate_dst (N := 3) rfl ?_); refine box_event ?hg (N := 3) ?hd (cs := #[.int .i64 a0_0, .int .i64 a0_1, .int .i64 a0_2, .int .i64 a0_3]) (t := 23) ?hr ?_; (case hd => rfl); (case hg => rfl); (case hr => first | (go_simp; done) | (go_simp; rfl)); intro gp hg w1 hbox hb; have n2_ := Aside0.mk ((by rw [hg]; exact (below_size (by repeat (first | (with_reducible first | exact HB.out | apply below_alloc | apply pw_below_drewN | apply below_drew1) | exact HB.out)))) : w.heap.size ≤ gp); have n0_ := Aside0.mk (below_step (by repeat (first | (with_reducible first | exact HB.out | apply below_alloc | apply pw_below_drewN | apply below_drew1) | exact HB.out)) hb); clear HB; have HB := n0_; clear n0_; have BKgp := Aside0.mk hbox; have GEgp := n2_; clear n2_ hb hbox hg; have hcgp_0 : w1.cell? ⟨gp, 0, none⟩ = some (.int .i64 a0_0) := (blk_cell BKgp.out 0).trans rfl; have hcgp_1 : w1.cell? ⟨gp, 1, none⟩ = some (.int .i64 a0_1) := (blk_cell BKgp.out 1).trans rfl; have hcgp_2 : w1.cell? ⟨gp, 2, none⟩ = some (.int .i64 a0_2) := (blk_cell BKgp.out 2).trans rfl; have hcgp_3 : w1.cell? ⟨gp, 3, none⟩ = some (.int .i64 a0_3) := (blk_cell BKgp.out 3).trans rfl) | ((with_reducible refine gate_dst (N := 4) rfl ?_); refine box_event ?hg (N := 4) ?hd (cs := #[.int .i64 a1]) (t := 3) ?hr ?_; (case hd => rfl); (case hg => rfl); (case hr => first | (go_simp; done) | (go_simp; rfl)); intro gf hg w2 hbox hb; have n2_ := Aside0.mk ((by rw [hg]; exact (below_size (by repeat (first | (with_reducible first | exact HB.out | apply below_alloc | apply pw_below_drewN | apply below_drew1) | exact HB.out)))) : w.heap.size ≤ gf); have n0_ := Aside0.mk (below_step (by repeat (first | (with_reducible first | exact HB.out | apply below_alloc | apply pw_below_drewN | apply below_drew1) | exact HB.out)) hb); clear HB; have HB := n0_; clear n0_; have n1_ := Aside0.mk (blk_below BKgp.out hb); clear BKgp; have BKgp := n1_; clear n1_; have BKgf := Aside0.mk hbox; have GEgf := n2_; clear n2_ hb hbox hg; have hcgp_0 : w2.cell? ⟨gp, 0, none⟩ = some (.int .i64 a0_0) := (blk_cell BKgp.out 0).trans rfl; have hcgp_1 : w2.cell? ⟨gp, 1, none⟩ = some (.int .i64 a0_1) := (blk_cell BKgp.out 1).trans rfl; have hcgp_2 : w2.cell? ⟨gp, 2, none⟩ = some (.int .i64 a0_2) := (blk_cell BKgp.out 2).trans rfl; have hcgp_3 : w2.cell? ⟨gp, 3, none⟩ = some (.int .i64 a0_3) := (blk_cell BKgp.out 3).trans rfl; have hcgf_0 : w2.cell? ⟨gf, 0, none⟩ = some (.int .i64 a1) := (blk_cell BKgf.out 0).trans rfl) | (go_at_call 19; (with_reducible refine (layout_Check.calls a0_0 a0_1 a0_2 a0_3 _ _ HC.out).mono ?_); rintro e w3 ⟨rfl, hb⟩; have n0_ := Aside0.mk (below_step (by repeat (first | (with_reducible first | exact HB.out | apply below_alloc | apply pw_below_drewN | apply below_drew1) | exact HB.out)) hb); clear HB; have HB := n0_; clear n0_; have n1_ := Aside0.mk (blk_below BKgp.out hb); clear BKgp; have BKgp := n1_; clear n1_; have n1_ := Aside0.mk (blk_below BKgf.out hb); clear BKgf; have BKgf := n1_; clear n1_; clear hb; have hcgp_0 : w3.cell? ⟨gp, 0, none⟩ = some (.int .i64 a0_0) := (blk_cell BKgp.out 0).trans rfl; have hcgp_1 : w3.cell? ⟨gp, 1, none⟩ = some (.int .i64 a0_1) := (blk_cell BKgp.out 1).trans rfl; have hcgp_2 : w3.cell? ⟨gp, 2, none⟩ = some (.int .i64 a0_2) := (blk_cell BKgp.out 2).trans rfl; have hcgp_3 : w3.cell? ⟨gp, 3, none⟩ = some (.int .i64 a0_3) := (blk_cell BKgp.out 3).trans rfl; have hcgf_0 : w3.cell? ⟨gf, 0, none⟩ = some (.int .i64 a1) := (blk_cell BKgf.out 0).trans rfl))
  go_ret2
  exact ⟨_, rfl, Kd.R_nil _ _ _ _ _, HB.out⟩
set_option maxHeartbeats 8000000 in
set_option maxRecDepth 100000 in
theorem Spans_big1 (a0_0 a0_1 a0_2 a0_3 a1 a2 : Int) (w : World) (hk : okP a0_0 a0_1 a0_2 a0_3 = true) (m : Int) (hm : layout_most.f a0_0 a0_1 a0_2 a0_3 = some m) (h1 : decide (a1 < 0) = false) (h2 : decide (a2 < 0) = false) (h3 : decide (m < a1) = true) :
    Calls Try.prog 21 #[.agg #[.int .i64 a0_0, .int .i64 a0_1, .int .i64 a0_2, .int .i64 a0_3], .int .i64 a1, .int .i64 a2] w fun e w' => ∃ v0_ : Value, e = .returned (.tuple #[v0_, .int .i64 3]) ∧ Kd.R k34 34 w' w.heap.size (fun _ => True) v0_ [] ∧ Below w.heap.size w w' := by
  have hu := Try.underlying23
  have HB := Aside0.mk (Below.refl w.heap.size w)
  have HC := Aside0.mk (show layout_Check.f a0_0 a0_1 a0_2 a0_3 = some 0 by simp [layout_Check.f, hk])
  clear hk
  have HM := Aside0.mk hm
  clear hm
  go_enter Try.func21, Try.ntmps21
  go_wp2_with (first | ((with_reducible refine gate_dst (N := 3) rfl ?_); refine box_event ?hg (N := 3) ?hd (cs := #[.int .i64 a0_0, .int .i64 a0_1, .int .i64 a0_2, .int .i64 a0_3]) (t := 23) ?hr ?_; (case hd => rfl); (case hg => rfl); (case hr => first | (go_simp; done) | (go_simp; rfl)); intro gp hg w1 hbox hb; have n2_ := Aside0.mk ((by rw [hg]; exact (below_size (by repeat (first | (with_reducible first | exact HB.out | apply below_alloc | apply pw_below_drewN | apply below_drew1) | exact HB.out)))) : w.heap.size ≤ gp); have n0_ := Aside0.mk (below_step (by repeat (first | (with_reducible first | exact HB.out | apply below_alloc | apply pw_below_drewN | apply below_drew1) | exact HB.out)) hb); clear HB; have HB := n0_; clear n0_; have BKgp := Aside0.mk hbox; have GEgp := n2_; clear n2_ hb hbox hg; have hcgp_0 : w1.cell? ⟨gp, 0, none⟩ = some (.int .i64 a0_0) := (blk_cell BKgp.out 0).trans rfl; have hcgp_1 : w1.cell? ⟨gp, 1, none⟩ = some (.int .i64 a0_1) := (blk_cell BKgp.out 1).trans rfl; have hcgp_2 : w1.cell? ⟨gp, 2, none⟩ = some (.int .i64 a0_2) := (blk_cell BKgp.out 2).trans rfl; have hcgp_3 : w1.cell? ⟨gp, 3, none⟩ = some (.int .i64 a0_3) := (blk_cell BKgp.out 3).trans rfl) | ((with_reducible refine gate_dst (N := 4) rfl ?_); refine box_event ?hg (N := 4) ?hd (cs := #[.int .i64 a1]) (t := 3) ?hr ?_; (case hd => rfl); (case hg => rfl); (case hr => first | (go_simp; done) | (go_simp; rfl)); intro gf hg w2 hbox hb; have n2_ := Aside0.mk ((by rw [hg]; exact (below_size (by repeat (first | (with_reducible first | exact HB.out | apply below_alloc | apply pw_below_drewN | apply below_drew1) | exact HB.out)))) : w.heap.size ≤ gf); have n0_ := Aside0.mk (below_step (by repeat (first | (with_reducible first | exact HB.out | apply below_alloc | apply pw_below_drewN | apply below_drew1) | exact HB.out)) hb); clear HB; have HB := n0_; clear n0_; have n1_ := Aside0.mk (blk_below BKgp.out hb); clear BKgp; have BKgp := n1_; clear n1_; have BKgf := Aside0.mk hbox; have GEgf := n2_; clear n2_ hb hbox hg; have hcgp_0 : w2.cell? ⟨gp, 0, none⟩ = some (.int .i64 a0_0) := (blk_cell BKgp.out 0).trans rfl; have hcgp_1 : w2.cell? ⟨gp, 1, none⟩ = some (.int .i64 a0_1) := (blk_cell BKgp.out 1).trans rfl; have hcgp_2 : w2.cell? ⟨gp, 2, none⟩ = some (.int .i64 a0_2) := (blk_cell BKgp.out 2).trans rfl; have hcgp_3 : w2.cell? ⟨gp, 3, none⟩ = some (.int .i64 a0_3) := (blk_cell BKgp.out 3).trans rfl; have hcgf_0 : w2.cell? ⟨gf, 0, none⟩ = some (.int .i64 a1) := (blk_cell BKgf.out 0).trans rfl) | (go_at_call 19; (with_reducible refine (layout_Check.calls a0_0 a0_1 a0_2 a0_3 _ _ HC.out).mono ?_); rintro e w3 ⟨rfl, hb⟩; have n0_ := Aside0.mk (below_step (by repeat (first | (with_reducible first | exact HB.out | apply below_alloc | apply pw_below_drewN | apply below_drew1) | exact HB.out)) hb); clear HB; have HB := n0_; clear n0_; have n1_ := Aside0.mk (blk_below BKgp.out hb); clear BKgp; have BKgp := n1_; clear n1_; have n1_ := Aside0.mk (blk_below BKgf.out hb); clear BKgf; have BKgf := n1_; clear n1_; clear hb; have hcgp_0 : w3.cell? ⟨gp, 0, none⟩ = some (.int .i64 a0_0) := (blk_cell BKgp.out 0).trans rfl; have hcgp_1 : w3.cell? ⟨gp, 1, none⟩ = some (.int .i64 a0_1) := (blk_cell BKgp.out 1).trans rfl; have hcgp_2 : w3.cell? ⟨gp, 2, none⟩ = some (.int .i64 a0_2) := (blk_cell BKgp.out 2).trans rfl; have hcgp_3 : w3.cell? ⟨gp, 3, none⟩ = some (.int .i64 a0_3) := (blk_cell BKgp.out 3).trans rfl; have hcgf_0 : w3.cell? ⟨gf, 0, none⟩ = some (.int .i64 a1) := (blk_cell BKgf.out 0).trans rfl) | (go_at_call 41; (with_reducible refine (layout_most.calls a0_0 a0_1 a0_2 a0_3 _ _ HM.out).mono ?_); rintro e w4 ⟨rfl, hb⟩; have n0_ := Aside0.mk (below_step (by repeat (first | (with_reducible first | exact HB.out | apply below_alloc | apply pw_below_drewN | apply below_drew1) | exact HB.out)) hb); clear HB; have HB := n0_; clear n0_; have n1_ := Aside0.mk (blk_below BKgp.out hb); clear BKgp; have BKgp := n1_; clear n1_; have n1_ := Aside0.mk (blk_below BKgf.out hb); clear BKgf; have BKgf := n1_; clear n1_; clear hb; have hcgp_0 : w4.cell? ⟨gp, 0, none⟩ = some (.int .i64 a0_0) := (blk_cell BKgp.out 0).trans rfl; have hcgp_1 : w4.cell? ⟨gp, 1, none⟩ = some (.int .i64 a0_1) := (blk_cell BKgp.out 1).trans rfl; have hcgp_2 : w4.cell? ⟨gp, 2, none⟩ = some (.int .i64 a0_2) := (blk_cell BKgp.out 2).trans rfl; have hcgp_3 : w4.cell? ⟨gp, 3, none⟩ = some (.int .i64 a0_3) := (blk_cell BKgp.out 3).trans rfl; have hcgf_0 : w4.cell? ⟨gf, 0, none⟩ = some (.int .i64 a1) := (blk_cell BKgf.out 0).trans rfl))
  go_ret2
  exact ⟨_, rfl, Kd.R_nil _ _ _ _ _, HB.out⟩
set_option maxHeartbeats 8000000 in
set_option maxRecDepth 100000 in
theorem Spans_big2 (a0_0 a0_1 a0_2 a0_3 a1 a2 : Int) (w : World) (hk : okP a0_0 a0_1 a0_2 a0_3 = true) (m d : Int) (hm : layout_most.f a0_0 a0_1 a0_2 a0_3 = some m) (h1 : decide (a1 < 0) = false) (h2 : decide (a2 < 0) = false) (h3 : decide (m < a1) = false) (h4 : wrap64 (m - a1) = d) (h5 : decide (d < a2) = true) :
    Calls Try.prog 21 #[.agg #[.int .i64 a0_0, .int .i64 a0_1, .int .i64 a0_2, .int .i64 a0_3], .int .i64 a1, .int .i64 a2] w fun e w' => ∃ v0_ : Value, e = .returned (.tuple #[v0_, .int .i64 3]) ∧ Kd.R k34 34 w' w.heap.size (fun _ => True) v0_ [] ∧ Below w.heap.size w w' := by
  have hu := Try.underlying23
  have HB := Aside0.mk (Below.refl w.heap.size w)
  have HC := Aside0.mk (show layout_Check.f a0_0 a0_1 a0_2 a0_3 = some 0 by simp [layout_Check.f, hk])
  clear hk
  have HM := Aside0.mk hm
  clear hm
  go_enter Try.func21, Try.ntmps21
  go_wp2_with (first | ((with_reducible refine gate_dst (N := 3) rfl ?_); refine box_event ?hg (N := 3) ?hd (cs := #[.int .i64 a0_0, .int .i64 a0_1, .int .i64 a0_2, .int .i64 a0_3]) (t := 23) ?hr ?_; (case hd => rfl); (case hg => rfl); (case hr => first | (go_simp; done) | (go_simp; rfl)); intro gp hg w1 hbox hb; have n2_ := Aside0.mk ((by rw [hg]; exact (below_size (by repeat (first | (with_reducible first | exact HB.out | apply below_alloc | apply pw_below_drewN | apply below_drew1) | exact HB.out)))) : w.heap.size ≤ gp); have n0_ := Aside0.mk (below_step (by repeat (first | (with_reducible first | exact HB.out | apply below_alloc | apply pw_below_drewN | apply below_drew1) | exact HB.out)) hb); clear HB; have HB := n0_; clear n0_; have BKgp := Aside0.mk hbox; have GEgp := n2_; clear n2_ hb hbox hg; have hcgp_0 : w1.cell? ⟨gp, 0, none⟩ = some (.int .i64 a0_0) := (blk_cell BKgp.out 0).trans rfl; have hcgp_1 : w1.cell? ⟨gp, 1, none⟩ = some (.int .i64 a0_1) := (blk_cell BKgp.out 1).trans rfl; have hcgp_2 : w1.cell? ⟨gp, 2, none⟩ = some (.int .i64 a0_2) := (blk_cell BKgp.out 2).trans rfl; have hcgp_3 : w1.cell? ⟨gp, 3, none⟩ = some (.int .i64 a0_3) := (blk_cell BKgp.out 3).trans rfl) | ((with_reducible refine gate_dst (N := 4) rfl ?_); refine box_event ?hg (N := 4) ?hd (cs := #[.int .i64 a1]) (t := 3) ?hr ?_; (case hd => rfl); (case hg => rfl); (case hr => first | (go_simp; done) | (go_simp; rfl)); intro gf hg w2 hbox hb; have n2_ := Aside0.mk ((by rw [hg]; exact (below_size (by repeat (first | (with_reducible first | exact HB.out | apply below_alloc | apply pw_below_drewN | apply below_drew1) | exact HB.out)))) : w.heap.size ≤ gf); have n0_ := Aside0.mk (below_step (by repeat (first | (with_reducible first | exact HB.out | apply below_alloc | apply pw_below_drewN | apply below_drew1) | exact HB.out)) hb); clear HB; have HB := n0_; clear n0_; have n1_ := Aside0.mk (blk_below BKgp.out hb); clear BKgp; have BKgp := n1_; clear n1_; have BKgf := Aside0.mk hbox; have GEgf := n2_; clear n2_ hb hbox hg; have hcgp_0 : w2.cell? ⟨gp, 0, none⟩ = some (.int .i64 a0_0) := (blk_cell BKgp.out 0).trans rfl; have hcgp_1 : w2.cell? ⟨gp, 1, none⟩ = some (.int .i64 a0_1) := (blk_cell BKgp.out 1).trans rfl; have hcgp_2 : w2.cell? ⟨gp, 2, none⟩ = some (.int .i64 a0_2) := (blk_cell BKgp.out 2).trans rfl; have hcgp_3 : w2.cell? ⟨gp, 3, none⟩ = some (.int .i64 a0_3) := (blk_cell BKgp.out 3).trans rfl; have hcgf_0 : w2.cell? ⟨gf, 0, none⟩ = some (.int .i64 a1) := (blk_cell BKgf.out 0).trans rfl) | (go_at_call 19; (with_reducible refine (layout_Check.calls a0_0 a0_1 a0_2 a0_3 _ _ HC.out).mono ?_); rintro e w3 ⟨rfl, hb⟩; have n0_ := Aside0.mk (below_step (by repeat (first | (with_reducible first | exact HB.out | apply below_alloc | apply pw_below_drewN | apply below_drew1) | exact HB.out)) hb); clear HB; have HB := n0_; clear n0_; have n1_ := Aside0.mk (blk_below BKgp.out hb); clear BKgp; have BKgp := n1_; clear n1_; have n1_ := Aside0.mk (blk_below BKgf.out hb); clear BKgf; have BKgf := n1_; clear n1_; clear hb; have hcgp_0 : w3.cell? ⟨gp, 0, none⟩ = some (.int .i64 a0_0) := (blk_cell BKgp.out 0).trans rfl; have hcgp_1 : w3.cell? ⟨gp, 1, none⟩ = some (.int .i64 a0_1) := (blk_cell BKgp.out 1).trans rfl; have hcgp_2 : w3.cell? ⟨gp, 2, none⟩ = some (.int .i64 a0_2) := (blk_cell BKgp.out 2).trans rfl; have hcgp_3 : w3.cell? ⟨gp, 3, none⟩ = some (.int .i64 a0_3) := (blk_cell BKgp.out 3).trans rfl; have hcgf_0 : w3.cell? ⟨gf, 0, none⟩ = some (.int .i64 a1) := (blk_cell BKgf.out 0).trans rfl) | (go_at_call 41; (with_reducible refine (layout_most.calls a0_0 a0_1 a0_2 a0_3 _ _ HM.out).mono ?_); rintro e w4 ⟨rfl, hb⟩; have n0_ := Aside0.mk (below_step (by repeat (first | (with_reducible first | exact HB.out | apply below_alloc | apply pw_below_drewN | apply below_drew1) | exact HB.out)) hb); clear HB; have HB := n0_; clear n0_; have n1_ := Aside0.mk (blk_below BKgp.out hb); clear BKgp; have BKgp := n1_; clear n1_; have n1_ := Aside0.mk (blk_below BKgf.out hb); clear BKgf; have BKgf := n1_; clear n1_; clear hb; have hcgp_0 : w4.cell? ⟨gp, 0, none⟩ = some (.int .i64 a0_0) := (blk_cell BKgp.out 0).trans rfl; have hcgp_1 : w4.cell? ⟨gp, 1, none⟩ = some (.int .i64 a0_1) := (blk_cell BKgp.out 1).trans rfl; have hcgp_2 : w4.cell? ⟨gp, 2, none⟩ = some (.int .i64 a0_2) := (blk_cell BKgp.out 2).trans rfl; have hcgp_3 : w4.cell? ⟨gp, 3, none⟩ = some (.int .i64 a0_3) := (blk_cell BKgp.out 3).trans rfl; have hcgf_0 : w4.cell? ⟨gf, 0, none⟩ = some (.int .i64 a1) := (blk_cell BKgf.out 0).trans rfl))
  go_ret2
  exact ⟨_, rfl, Kd.R_nil _ _ _ _ _, HB.out⟩
set_option maxHeartbeats 8000000 in
set_option maxRecDepth 100000 in
theorem Spans_main (a0_0 a0_1 a0_2 a0_3 a1 a2 : Int) (w : World) (hk : okP a0_0 a0_1 a0_2 a0_3 = true) (h1 : 0 ≤ a1) (h2 : 0 ≤ a2) (h3 : a1 + a2 ≤ 40000) (m d : Int) (hm : layout_most.f a0_0 a0_1 a0_2 a0_3 = some m) (h4 : a1 ≤ m) (h5 : wrap64 (m - a1) = d) (h6 : a2 ≤ d) :
    Calls Try.prog 21 #[.agg #[.int .i64 a0_0, .int .i64 a0_1, .int .i64 a0_2, .int .i64 a0_3], .int .i64 a1, .int .i64 a2] w fun e w' => ∃ v0_ : Value, e = .returned (.tuple #[v0_, .int .i64 0]) ∧ Kd.R k34 34 w' w.heap.size (fun _ => True) v0_ (spansGo a0_0 a0_2 (a1 + a2) a2.toNat a1) ∧ Below w.heap.size w w' := by
  have hu := Try.underlying23
  have HB := Aside0.mk (Below.refl w.heap.size w)
  have HC := Aside0.mk (show layout_Check.f a0_0 a0_1 a0_2 a0_3 = some 0 by simp [layout_Check.f, hk])
  obtain ⟨o1, o2, o3, o4, o5, o6, o7, o8, o9⟩ := okP_iff.mp hk
  have HM := Aside0.mk hm
  have AR := Aside0.mk (show 1 ≤ a0_0 ∧ 8 ≤ a0_2 ∧ a0_2 ≤ 64 ∧ 0 ≤ a1 ∧ 0 ≤ a2 ∧ a1 + a2 ≤ 40000 from ⟨o1, o5, o6, h1, h2, h3⟩)
  have t1 : decide (a1 < 0) = false := decide_eq_false (by omega)
  have t2 : decide (a2 < 0) = false := decide_eq_false (by omega)
  have t3 : decide (m < a1) = false := decide_eq_false (by omega)
  have t4 : decide (d < a2) = false := decide_eq_false (by omega)
  obtain ⟨en, hen⟩ : ∃ en, en = a1 + a2 := ⟨_, rfl⟩
  have t5 : wrap64 (a1 + a2) = en := by rw [hen]; unfold wrap64; omega
  have HE := Aside0.mk hen
  clear hk o1 o2 o3 o4 o5 o6 o7 o8 o9 h1 h2 h3 h4 h6 hm hen
  go_enter Try.func21, Try.ntmps21
  go_wp2_with (first | ((with_reducible refine gate_dst (N := 3) rfl ?_); refine box_event ?hg (N := 3) ?hd (cs := #[.int .i64 a0_0, .int .i64 a0_1, .int .i64 a0_2, .int .i64 a0_3]) (t := 23) ?hr ?_; (case hd => rfl); (case hg => rfl); (case hr => first | (go_simp; done) | (go_simp; rfl)); intro gp hg w1 hbox hb; have n2_ := Aside0.mk ((by rw [hg]; exact (below_size (by repeat (first | (with_reducible first | exact HB.out | apply below_alloc | apply pw_below_drewN | apply below_drew1) | exact HB.out)))) : w.heap.size ≤ gp); have n0_ := Aside0.mk (below_step (by repeat (first | (with_reducible first | exact HB.out | apply below_alloc | apply pw_below_drewN | apply below_drew1) | exact HB.out)) hb); clear HB; have HB := n0_; clear n0_; have BKgp := Aside0.mk hbox; have GEgp := n2_; clear n2_ hb hbox hg; have hcgp_0 : w1.cell? ⟨gp, 0, none⟩ = some (.int .i64 a0_0) := (blk_cell BKgp.out 0).trans rfl; have hcgp_1 : w1.cell? ⟨gp, 1, none⟩ = some (.int .i64 a0_1) := (blk_cell BKgp.out 1).trans rfl; have hcgp_2 : w1.cell? ⟨gp, 2, none⟩ = some (.int .i64 a0_2) := (blk_cell BKgp.out 2).trans rfl; have hcgp_3 : w1.cell? ⟨gp, 3, none⟩ = some (.int .i64 a0_3) := (blk_cell BKgp.out 3).trans rfl) | ((with_reducible refine gate_dst (N := 4) rfl ?_); refine box_event ?hg (N := 4) ?hd (cs := #[.int .i64 a1]) (t := 3) ?hr ?_; (case hd => rfl); (case hg => rfl); (case hr => first | (go_simp; done) | (go_simp; rfl)); intro gf hg w2 hbox hb; have n2_ := Aside0.mk ((by rw [hg]; exact (below_size (by repeat (first | (with_reducible first | exact HB.out | apply below_alloc | apply pw_below_drewN | apply below_drew1) | exact HB.out)))) : w.heap.size ≤ gf); have n0_ := Aside0.mk (below_step (by repeat (first | (with_reducible first | exact HB.out | apply below_alloc | apply pw_below_drewN | apply below_drew1) | exact HB.out)) hb); clear HB; have HB := n0_; clear n0_; have n1_ := Aside0.mk (blk_below BKgp.out hb); clear BKgp; have BKgp := n1_; clear n1_; have BKgf := Aside0.mk hbox; have GEgf := n2_; clear n2_ hb hbox hg; have hcgp_0 : w2.cell? ⟨gp, 0, none⟩ = some (.int .i64 a0_0) := (blk_cell BKgp.out 0).trans rfl; have hcgp_1 : w2.cell? ⟨gp, 1, none⟩ = some (.int .i64 a0_1) := (blk_cell BKgp.out 1).trans rfl; have hcgp_2 : w2.cell? ⟨gp, 2, none⟩ = some (.int .i64 a0_2) := (blk_cell BKgp.out 2).trans rfl; have hcgp_3 : w2.cell? ⟨gp, 3, none⟩ = some (.int .i64 a0_3) := (blk_cell BKgp.out 3).trans rfl; have hcgf_0 : w2.cell? ⟨gf, 0, none⟩ = some (.int .i64 a1) := (blk_cell BKgf.out 0).trans rfl) | (go_at_call 19; (with_reducible refine (layout_Check.calls a0_0 a0_1 a0_2 a0_3 _ _ HC.out).mono ?_); rintro e w3 ⟨rfl, hb⟩; have n0_ := Aside0.mk (below_step (by repeat (first | (with_reducible first | exact HB.out | apply below_alloc | apply pw_below_drewN | apply below_drew1) | exact HB.out)) hb); clear HB; have HB := n0_; clear n0_; have n1_ := Aside0.mk (blk_below BKgp.out hb); clear BKgp; have BKgp := n1_; clear n1_; have n1_ := Aside0.mk (blk_below BKgf.out hb); clear BKgf; have BKgf := n1_; clear n1_; clear hb; have hcgp_0 : w3.cell? ⟨gp, 0, none⟩ = some (.int .i64 a0_0) := (blk_cell BKgp.out 0).trans rfl; have hcgp_1 : w3.cell? ⟨gp, 1, none⟩ = some (.int .i64 a0_1) := (blk_cell BKgp.out 1).trans rfl; have hcgp_2 : w3.cell? ⟨gp, 2, none⟩ = some (.int .i64 a0_2) := (blk_cell BKgp.out 2).trans rfl; have hcgp_3 : w3.cell? ⟨gp, 3, none⟩ = some (.int .i64 a0_3) := (blk_cell BKgp.out 3).trans rfl; have hcgf_0 : w3.cell? ⟨gf, 0, none⟩ = some (.int .i64 a1) := (blk_cell BKgf.out 0).trans rfl) | (go_at_call 41; (with_reducible refine (layout_most.calls a0_0 a0_1 a0_2 a0_3 _ _ HM.out).mono ?_); rintro e w4 ⟨rfl, hb⟩; have n0_ := Aside0.mk (below_step (by repeat (first | (with_reducible first | exact HB.out | apply below_alloc | apply pw_below_drewN | apply below_drew1) | exact HB.out)) hb); clear HB; have HB := n0_; clear n0_; have n1_ := Aside0.mk (blk_below BKgp.out hb); clear BKgp; have BKgp := n1_; clear n1_; have n1_ := Aside0.mk (blk_below BKgf.out hb); clear BKgf; have BKgf := n1_; clear n1_; clear hb; have hcgp_0 : w4.cell? ⟨gp, 0, none⟩ = some (.int .i64 a0_0) := (blk_cell BKgp.out 0).trans rfl; have hcgp_1 : w4.cell? ⟨gp, 1, none⟩ = some (.int .i64 a0_1) := (blk_cell BKgp.out 1).trans rfl; have hcgp_2 : w4.cell? ⟨gp, 2, none⟩ = some (.int .i64 a0_2) := (blk_cell BKgp.out 2).trans rfl; have hcgp_3 : w4.cell? ⟨gp, 3, none⟩ = some (.int .i64 a0_3) := (blk_cell BKgp.out 3).trans rfl; have hcgf_0 : w4.cell? ⟨gf, 0, none⟩ = some (.int .i64 a1) := (blk_cell BKgf.out 0).trans rfl) | ((with_reducible refine gate_dst (N := 10) rfl ?_); refine box_event ?hg (N := 10) ?hd (cs := #[.slice none 0 0]) (t := 30) ?hr ?_; (case hd => rfl); (case hg => rfl); (case hr => first | (go_simp; done) | (go_simp; rfl)); intro go hg w5 hbox hb; have n2_ := Aside0.mk ((by rw [hg]; exact (below_size (by repeat (first | (with_reducible first | exact HB.out | apply below_alloc | apply pw_below_drewN | apply below_drew1) | exact HB.out)))) : w.heap.size ≤ go); have n0_ := Aside0.mk (below_step (by repeat (first | (with_reducible first | exact HB.out | apply below_alloc | apply pw_below_drewN | apply below_drew1) | exact HB.out)) hb); clear HB; have HB := n0_; clear n0_; have n1_ := Aside0.mk (blk_below BKgp.out hb); clear BKgp; have BKgp := n1_; clear n1_; have n1_ := Aside0.mk (blk_below BKgf.out hb); clear BKgf; have BKgf := n1_; clear n1_; have BKgo := Aside0.mk hbox; have GEgo := n2_; clear n2_ hb hbox hg; have hcgp_0 : w5.cell? ⟨gp, 0, none⟩ = some (.int .i64 a0_0) := (blk_cell BKgp.out 0).trans rfl; have hcgp_1 : w5.cell? ⟨gp, 1, none⟩ = some (.int .i64 a0_1) := (blk_cell BKgp.out 1).trans rfl; have hcgp_2 : w5.cell? ⟨gp, 2, none⟩ = some (.int .i64 a0_2) := (blk_cell BKgp.out 2).trans rfl; have hcgp_3 : w5.cell? ⟨gp, 3, none⟩ = some (.int .i64 a0_3) := (blk_cell BKgp.out 3).trans rfl; have hcgf_0 : w5.cell? ⟨gf, 0, none⟩ = some (.int .i64 a1) := (blk_cell BKgf.out 0).trans rfl; have hcgo_0 : w5.cell? ⟨go, 0, none⟩ = some (.slice none 0 0) := (blk_cell BKgo.out 0).trans rfl))
  try rw [t5]
  go_loopg [13] a2.toNat (fun kq v13 wr => ∃ (v : Value) (xs : List S34) (x : Int), Aside0 (0 ≤ x ∧ x ≤ en ∧ en - x ≤ kq ∧ xs.length ≤ x) ∧ Aside0 (xs ++ spansGo a0_0 a0_2 en kq x = spansGo a0_0 a0_2 en a2.toNat a1) ∧ Aside0 (wr.heap[go]? = some (.cells #[v] 30 (0, 0))) ∧ Aside0 (wr.heap[gp]? = some (.cells #[.int .i64 a0_0, .int .i64 a0_1, .int .i64 a0_2, .int .i64 a0_3] 23 (0, 0))) ∧ Aside0 (wr.heap[gf]? = some (.cells #[.int .i64 x] 3 (0, 0))) ∧ Aside0 (Kd.R k34 34 wr w.heap.size (fun _ => True) v xs) ∧ Aside0 (Below w.heap.size w wr))
  case atStart =>
    refine ⟨_, [], a1, ?_, Aside0.mk rfl, BKgo, BKgp, BKgf, Aside0.mk (Kd.R_nil _ _ _ _ _), HB⟩
    have := AR.out
    have := HE.out
    exact Aside0.mk ⟨by omega, by omega, by omega, by simp; omega⟩
  case round =>
    obtain ⟨v, xs, x, AX, AQ, BKgo, BKgp, BKgf, HO, HB⟩ := hrel
    have hcf : wr.cell? ⟨gf, 0, none⟩ = some (.int .i64 x) := (blk_cell BKgf.out 0).trans rfl
    have hcC : wr.cell? ⟨gp, 2, none⟩ = some (.int .i64 a0_2) := (blk_cell BKgp.out 2).trans rfl
    have hco : wr.cell? ⟨go, 0, none⟩ = some v := (blk_cell BKgo.out 0).trans rfl
    by_cases hlt : x < en
    · have t6 : decide (x < en) = true := decide_eq_true hlt
      have hC0 : ¬ a0_2 = 0 := by have := AR.out; omega
      have hC1 : (a0_2 == 0) = false := beq_eq_false_iff_ne.mpr hC0
      have HLT := Aside0.mk hlt
      have HK := Aside0.mk (show ¬ a0_0 = 0 by have := AR.out; omega)
      clear hlt
      go_wp2
      have n0_ := Aside0.mk (below_drew1 HB.out)
      clear HB
      have HB := n0_
      clear n0_
      have nH_ := Aside0.mk (Kd.R_drew HO.out)
      clear HO
      have HO := nH_
      clear nH_
      have n1_ := Aside0.mk (blk_drew BKgp.out)
      clear BKgp
      have BKgp := n1_
      clear n1_
      have n1_ := Aside0.mk (blk_drew BKgf.out)
      clear BKgf
      have BKgf := n1_
      clear n1_
      have n1_ := Aside0.mk (blk_drew BKgo.out)
      clear BKgo
      have BKgo := n1_
      clear n1_
      refine start_ (n := 15) (S := fun w' => w'.cell? ⟨gp, 0, none⟩ = some (.int .i64 a0_0) ∧ w'.cell? ⟨gp, 1, none⟩ = some (.int .i64 a0_1) ∧ w'.cell? ⟨gp, 2, none⟩ = some (.int .i64 a0_2) ∧ w'.cell? ⟨gp, 3, none⟩ = some (.int .i64 a0_3) ∧ w'.cell? ⟨gf, 0, none⟩ = some (.int .i64 x) ∧ w'.cell? ⟨go, 0, none⟩ = some (v)) (ds := [14]) #[false, false, false, false, false, false, false, false, false, false, false, false, false, false, false] (by kernel_rfl) rfl rfl ⟨(blk_cell BKgp.out 0).trans rfl, (blk_cell BKgp.out 1).trans rfl, (blk_cell BKgp.out 2).trans rfl, (blk_cell BKgp.out 3).trans rfl, (blk_cell BKgf.out 0).trans rfl, (blk_cell BKgo.out 0).trans rfl⟩ (fun hHeld => ?_)
      generalize World.drew _ = w6 at BKgp BKgf BKgo HB HO hHeld ⊢
      refine pure_ (i := 0) (N := some 48) (v := ?_) (a' := ?_) #[true, false, false, false, false, false, false, false, false, false, false, false, false, false, false] rfl rfl (by kernel_rfl) (fun _ _ _ h => h) (Or.inl ⟨by rfl, ?_⟩) ?_ ?_
      rotate_left
      · intro w'
        go_simp
        with_reducible rfl
      rotate_left
      · simp only [Act.put, List.setIfInBounds_toArray, List.set_cons_zero, List.set_cons_succ, i64_w, i32_w]
        rfl
      refine pure_ (i := 2) (N := some 50) (v := ?_) (a' := ?_) #[true, false, true, false, false, false, false, false, false, false, false, false, false, false, false] rfl rfl (by kernel_rfl) (fun _ _ _ h => h) (Or.inl ⟨by rfl, ?_⟩) ?_ ?_
      rotate_left
      · intro w'
        go_simp
        with_reducible rfl
      rotate_left
      · simp only [Act.put, List.setIfInBounds_toArray, List.set_cons_zero, List.set_cons_succ, i64_w, i32_w]
        rfl
      refine pure_ (i := 5) (N := some 53) (v := ?_) (a' := ?_) #[true, false, true, false, false, true, false, false, false, false, false, false, false, false, false] rfl rfl (by kernel_rfl) (fun _ _ _ h => h) (Or.inl ⟨by rfl, ?_⟩) ?_ ?_
      rotate_left
      · intro w'
        go_simp
        with_reducible rfl
      rotate_left
      · simp only [Act.put, List.setIfInBounds_toArray, List.set_cons_zero, List.set_cons_succ, i64_w, i32_w]
        rfl
      refine pure_ (i := 6) (N := some 54) (v := ?_) (a' := ?_) #[true, false, true, false, false, true, true, false, false, false, false, false, false, false, false] rfl rfl (by kernel_rfl) (fun _ _ _ h => h) (Or.inl ⟨by rfl, ?_⟩) ?_ ?_
      rotate_left
      · intro w'
        go_simp
        with_reducible rfl
      rotate_left
      · simp only [Act.put, List.setIfInBounds_toArray, List.set_cons_zero, List.set_cons_succ, i64_w, i32_w]
        rfl
      refine pure_ (i := 8) (N := some 56) (v := ?_) (a' := ?_) #[true, false, true, false, false, true, true, false, true, false, false, false, false, false, false] rfl rfl (by kernel_rfl) (fun _ _ _ h => h) (Or.inl ⟨by rfl, ?_⟩) ?_ ?_
      rotate_left
      · intro w'
        go_simp
        with_reducible rfl
      rotate_left
      · simp only [Act.put, List.setIfInBounds_toArray, List.set_cons_zero, List.set_cons_succ, i64_w, i32_w]
        rfl
      refine pure_ (i := 10) (N := some 58) (v := ?_) (a' := ?_) #[true, false, true, false, false, true, true, false, true, false, true, false, false, false, false] rfl rfl (by kernel_rfl) (fun _ _ _ h => h) (Or.inl ⟨by rfl, ?_⟩) ?_ ?_
      rotate_left
      · intro w'
        go_simp
        with_reducible rfl
      rotate_left
      · simp only [Act.put, List.setIfInBounds_toArray, List.set_cons_zero, List.set_cons_succ, i64_w, i32_w]
        rfl
      refine take_ (i := 1) (N := some 49) (v := ?_) (a' := ?_) #[true, true, true, false, false, true, true, false, true, false, true, false, false, false, false] rfl rfl (by kernel_rfl) (fun _ _ _ h => h) (Or.inl ⟨by rfl, ?_⟩) hHeld ?_ ?_
      rotate_left
      · rintro w' ⟨s0, s1, s2, s3, s4, s5⟩
        go_simp
        with_reducible rfl
      rotate_left
      · simp only [Act.put, List.setIfInBounds_toArray, List.set_cons_zero, List.set_cons_succ, i64_w, i32_w]
        rfl
      refine take_ (i := 3) (N := some 51) (v := ?_) (a' := ?_) #[true, true, true, true, false, true, true, false, true, false, true, false, false, false, false] rfl rfl (by kernel_rfl) (fun _ _ _ h => h) (Or.inl ⟨by rfl, ?_⟩) hHeld ?_ ?_
      rotate_left
      · rintro w' ⟨s0, s1, s2, s3, s4, s5⟩
        go_simp
        with_reducible rfl
      rotate_left
      · simp only [Act.put, List.setIfInBounds_toArray, List.set_cons_zero, List.set_cons_succ, i64_w, i32_w]
        rfl
      refine pure_ (i := 4) (N := some 52) (v := ?_) (a' := ?_) #[true, true, true, true, true, true, true, false, true, false, true, false, false, false, false] rfl rfl (by kernel_rfl) (fun _ _ _ h => h) (Or.inl ⟨by rfl, ?_⟩) ?_ ?_
      rotate_left
      · intro w'
        go_simp
        with_reducible rfl
      rotate_left
      · simp only [Act.put, List.setIfInBounds_toArray, List.set_cons_zero, List.set_cons_succ, i64_w, i32_w]
        rfl
      refine take_ (i := 7) (N := some 55) (v := ?_) (a' := ?_) #[true, true, true, true, true, true, true, true, true, false, true, false, false, false, false] rfl rfl (by kernel_rfl) (fun _ _ _ h => h) (Or.inl ⟨by rfl, ?_⟩) hHeld ?_ ?_
      rotate_left
      · rintro w' ⟨s0, s1, s2, s3, s4, s5⟩
        go_simp
        with_reducible rfl
      rotate_left
      · simp only [Act.put, List.setIfInBounds_toArray, List.set_cons_zero, List.set_cons_succ, i64_w, i32_w]
        rfl
      refine pure_ (i := 9) (N := some 57) (v := ?_) (a' := ?_) #[true, true, true, true, true, true, true, true, true, true, true, false, false, false, false] rfl rfl (by kernel_rfl) (fun _ _ _ h => h) (Or.inl ⟨by rfl, ?_⟩) ?_ ?_
      rotate_left
      · intro w'
        go_simp
        with_reducible rfl
      rotate_left
      · simp only [Act.put, List.setIfInBounds_toArray, List.set_cons_zero, List.set_cons_succ, i64_w, i32_w]
        rfl
      refine take_ (i := 11) (N := some 59) (v := ?_) (a' := ?_) #[true, true, true, true, true, true, true, true, true, true, true, true, false, false, false] rfl rfl (by kernel_rfl) (fun _ _ _ h => h) (Or.inl ⟨by rfl, ?_⟩) hHeld ?_ ?_
      rotate_left
      · rintro w' ⟨s0, s1, s2, s3, s4, s5⟩
        go_simp
        with_reducible rfl
      rotate_left
      · simp only [Act.put, List.setIfInBounds_toArray, List.set_cons_zero, List.set_cons_succ, i64_w, i32_w]
        rfl
      refine pure_ (i := 12) (N := some 60) (v := ?_) (a' := ?_) #[true, true, true, true, true, true, true, true, true, true, true, true, true, false, false] rfl rfl (by kernel_rfl) (fun _ _ _ h => h) (Or.inl ⟨by rfl, ?_⟩) ?_ ?_
      rotate_left
      · intro w'
        go_simp
        with_reducible rfl
      rotate_left
      · simp only [Act.put, List.setIfInBounds_toArray, List.set_cons_zero, List.set_cons_succ, i64_w, i32_w]
        rfl
      refine pure_ (i := 13) (N := some 61) (v := ?_) (a' := ?_) #[true, true, true, true, true, true, true, true, true, true, true, true, true, true, false] rfl rfl (by kernel_rfl) (fun _ _ _ h => h) (Or.inl ⟨by rfl, ?_⟩) ?_ ?_
      rotate_left
      · intro w'
        go_simp
        with_reducible rfl
      rotate_left
      · simp only [Act.put, List.setIfInBounds_toArray, List.set_cons_zero, List.set_cons_succ, i64_w, i32_w]
        rfl
      refine last_ (i := 14) (N := some 62) #[true, true, true, true, true, true, true, true, true, true, true, true, true, true, true] rfl rfl (by kernel_rfl) (by decide) (fun K hK => ?_)
      refine goesT_ Try.func43 (by kernel_rfl) rfl #[.int .i64 (wrap64 (Int.tdiv x a0_2)), .int .i64 (Int.tmod x a0_2), .int .i64 (if (wrap64 (en - x)) < (wrap64 (a0_2 - Int.tmod x a0_2)) then (wrap64 (en - x)) else (wrap64 (a0_2 - Int.tmod x a0_2))), .pointer (some ⟨go, 0, none⟩), .pointer (some ⟨gp, 0, none⟩), .pointer (some ⟨gf, 0, none⟩)] (by rfl) rfl rfl rfl (by simp only [List.map_toArray, List.map_cons, List.map_nil, List.append_toArray, List.nil_append, List.cons_append]; rfl) ?_
      with_reducible refine (Spans_add w a0_0 a0_1 a0_2 a0_3 (wrap64 (Int.tdiv x a0_2)) (Int.tmod x a0_2) (if (wrap64 (en - x)) < (wrap64 (a0_2 - Int.tmod x a0_2)) then (wrap64 (en - x)) else (wrap64 (a0_2 - Int.tmod x a0_2))) x go gp gf v xs _ BKgo.out BKgp.out BKgf.out HO.out HB.out GEgo.out GEgf.out HK.out (by have := AX.out; have := AR.out; have := HE.out; omega)).mono ?_
      rintro e w9 ⟨v1, rfl, n1, n2, n3, n4, n5⟩
      refine ⟨_, rfl, ?_⟩
      clear BKgo BKgp BKgf HO HB
      have BKgo := Aside0.mk n1
      have BKgp := Aside0.mk n2
      have BKgf := Aside0.mk n3
      have HO := Aside0.mk n4
      have HB := Aside0.mk n5
      clear n1 n2 n3 n4 n5
      refine hK.out _ _ ?_
      clear hK K
      refine norm_ (a' := ?_) ?_ ?_
      rotate_left
      · show Act.put _ (some 62) _ = _
        simp only [Act.put, List.setIfInBounds_toArray, List.set_cons_zero, List.set_cons_succ, i64_w, i32_w]
        rfl
      refine done_ (by kernel_rfl) ?_
      go_wp2
      all_goals
        go_roundg (gk - 1)
        case measure =>
          have := AX.out
          have := HLT.out
          omega
        case rel =>
          obtain ⟨r1, r2, r3, r4⟩ := AX.out
          obtain ⟨fr, e1⟩ : ∃ fr, Int.tmod x a0_2 = fr := ⟨_, rfl⟩
          obtain ⟨qu, e2⟩ : ∃ qu, wrap64 (Int.tdiv x a0_2) = qu := ⟨_, rfl⟩
          rw [e1] at BKgf
          rw [e1, e2] at HO
          obtain ⟨u, e3⟩ : ∃ u, wrap64 (a0_2 - fr) = u := ⟨_, rfl⟩
          obtain ⟨z, e4⟩ : ∃ z, wrap64 (en - x) = z := ⟨_, rfl⟩
          rw [e3, e4] at BKgf HO
          obtain ⟨mm, e5⟩ : ∃ mm, (if z < u then z else u) = mm := ⟨_, rfl⟩
          rw [e5] at BKgf HO
          obtain ⟨s1, s2, s3, s4, s5, s6⟩ := AR.out
          have hl := HLT.out
          have he := HE.out
          have f1 : fr = x % a0_2 := by rw [← e1, Int.tmod_eq_emod_of_nonneg r1]
          have f2 := Int.emod_nonneg x (show a0_2 ≠ 0 by omega)
          have f3 := Int.emod_lt_of_pos x (show 0 < a0_2 by omega)
          have g0 : 0 ≤ x / a0_2 := Int.ediv_nonneg r1 (by omega)
          have g1 : x / a0_2 ≤ x := Int.ediv_le_self _ r1
          have g2 : qu = x / a0_2 := by rw [← e2, Int.tdiv_eq_ediv_of_nonneg r1]; unfold wrap64; omega
          have hu' : u = a0_2 - x % a0_2 := by rw [← e3, f1]; unfold wrap64; omega
          have hz' : z = en - x := by rw [← e4]; unfold wrap64; omega
          have hm' : mm = min (a0_2 - x % a0_2) (en - x) := by rw [← e5, hu', hz']; split <;> omega
          have k0 : 0 ≤ x / a0_2 / a0_0 := Int.ediv_nonneg g0 (by omega)
          have k1 : x / a0_2 / a0_0 ≤ x / a0_2 := Int.ediv_le_self _ g0
          have d1 : wrap64 (Int.tdiv qu a0_0) = x / a0_2 / a0_0 := by rw [g2, Int.tdiv_eq_ediv_of_nonneg g0]; unfold wrap64; omega
          have d2 : Int.tmod qu a0_0 = x / a0_2 % a0_0 := by rw [g2, Int.tmod_eq_emod_of_nonneg g0]
          have d3 : wrap64 (fr + mm) = x % a0_2 + min (a0_2 - x % a0_2) (en - x) := by rw [f1, hm']; unfold wrap64; omega
          have d4 : wrap64 (x + mm) = x + min (a0_2 - x % a0_2) (en - x) := by rw [hm']; unfold wrap64; omega
          obtain ⟨g, rfl⟩ : ∃ g, gk = g + 1 := ⟨gk - 1, by omega⟩
          have hs := AQ.out
          rw [spansGo] at hs
          rw [if_pos hl] at hs
          refine ⟨v1, _, wrap64 (x + mm), ?_, ?_, BKgo, BKgp, BKgf, HO, HB⟩
          · refine Aside0.mk ⟨by omega, by omega, by omega, ?_⟩
            rw [List.length_append, d4]; simp; omega
          · refine Aside0.mk ?_
            rw [d1, d2, d3, d4, f1, List.append_assoc, Nat.add_sub_cancel, List.singleton_append]
            exact hs
    · have t6 : decide (x < en) = false := decide_eq_false hlt
      have hs := AQ.out
      rw [spansGo_done _ _ _ _ _ hlt, List.append_nil] at hs
      have HS := Aside0.mk hs
      clear hs hlt
      go_wp2
      go_ret2
      refine ⟨v, rfl, ?_, HB.out⟩
      have e := HE.out
      rw [← e, ← HS.out]
      exact HO.out
theorem layout_Spans.calls (a0_0 : Int) (a0_1 : Int) (a0_2 : Int) (a0_3 : Int) (a1 : Int) (a2 : Int) (r1 : List (S34)) (r2 : Int) (w : World) (h : layout_Spans.f a0_0 a0_1 a0_2 a0_3 a1 a2 = some (r1, r2)) :
    Calls Try.prog 21 #[.agg #[.int .i64 a0_0, .int .i64 a0_1, .int .i64 a0_2, .int .i64 a0_3], .int .i64 a1, .int .i64 a2] w fun e w' => ∃ v0_ : Value, e = .returned (.tuple #[v0_, .int .i64 r2]) ∧ Kd.R k34 34 w' w.heap.size (fun _ => True) v0_ r1 ∧ Below w.heap.size w w' := by
  unfold layout_Spans.f at h
  by_cases hk : okP a0_0 a0_1 a0_2 a0_3 = true
  · have hw : 8 ≤ a0_0 * a0_2 ∧ a0_0 * a0_2 ≤ 768 := by
      obtain ⟨o1, o2, o3, o4, o5, o6, o7, o8, o9⟩ := okP_iff.mp hk
      exact mul_small o1 o2 o5 o6
    have hm := layout_most.ev _ _ _ _ hk
    have hmb : 0 ≤ mostOf (a0_0 * a0_2) ∧ mostOf (a0_0 * a0_2) ≤ 32768 := by
      obtain ⟨c1, c2, c3, c4⟩ := mostOf_small hw.1 hw.2
      unfold mostOf
      omega
    rw [if_pos hk] at h
    by_cases h1 : a1 < 0 ∨ a2 < 0
    · rw [if_pos h1] at h
      obtain ⟨rfl, rfl⟩ : [] = r1 ∧ 2 = r2 := by simpa using h
      by_cases h2 : a1 < 0
      · exact Spans_neg1 _ _ _ _ _ _ _ hk (decide_eq_true h2)
      · exact Spans_neg2 _ _ _ _ _ _ _ hk (decide_eq_false h2) (decide_eq_true (by omega))
    · rw [if_neg h1] at h
      by_cases h3 : a1 > mostOf (a0_0 * a0_2) ∨ a2 > mostOf (a0_0 * a0_2) - a1
      · rw [if_pos h3] at h
        obtain ⟨rfl, rfl⟩ : [] = r1 ∧ 3 = r2 := by simpa using h
        by_cases h4 : mostOf (a0_0 * a0_2) < a1
        · exact Spans_big1 _ _ _ _ _ _ _ hk _ hm (decide_eq_false (by omega)) (decide_eq_false (by omega)) (decide_eq_true h4)
        · exact Spans_big2 _ _ _ _ _ _ _ hk _ _ hm (decide_eq_false (by omega)) (decide_eq_false (by omega)) (decide_eq_false h4) (show wrap64 (mostOf (a0_0 * a0_2) - a1) = mostOf (a0_0 * a0_2) - a1 by unfold wrap64; omega) (decide_eq_true (by omega))
      · rw [if_neg h3] at h
        obtain ⟨rfl, rfl⟩ : spansGo a0_0 a0_2 (a1 + a2) a2.toNat a1 = r1 ∧ 0 = r2 := by simpa using h
        exact Spans_main _ _ _ _ _ _ _ hk (by omega) (by omega) (by omega) _ _ hm (by omega) (show wrap64 (mostOf (a0_0 * a0_2) - a1) = mostOf (a0_0 * a0_2) - a1 by unfold wrap64; omega) (by omega)
  · rw [if_neg hk] at h
    obtain ⟨rfl, rfl⟩ : [] = r1 ∧ 2 = r2 := by simpa using h
    exact Spans_bad _ _ _ _ _ _ _ (by simpa using hk)

end Go.Proofs.Ytgcodjkedifpaaa.P

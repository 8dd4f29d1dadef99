import Derived.Test.YtmhfgcmgeglmhaaDoorP21A
import Derived.Test.YtmhfgcmgeglmhaaDoorP0Steps
import Derived.Test.YtmhfgcmgeglmhaaDoorP0Shelf
import Derived.Test.YtmhfgcmgeglmhaaDoorWKept
import Derived.Lib.OwnBridge
import Derived.Sort.Grow
import Derived.Lib.FrozenHead2
import Derived.Shelf.Strings.Builder1
namespace Go.Proofs.YtmhfgcmgeglmhaaDoor.P
open Go.RowKit Go.Proofs.YtmhfgcmgeglmhaaDoorW.PrintWords Go.Proofs.YtmhfgcmgeglmhaaDoorW.PrintLast Go.Proofs.YtmhfgcmgeglmhaaDoorW.PrintMore
attribute [local go_sem] max2_int min2_int max_two min_two max_three min_three max_four min_four
set_option linter.unusedVariables false
set_option linter.unusedSimpArgs false
theorem size42 : (Tryd.prog.info? 42).map (·.size) = some 2 := by kernel_rfl
theorem lies42 : liesAt Tryd.prog Tryd.prog.depth 42 (2 / Tryd.prog.cellsOf 42) 0 42 1 = true := by kernel_rfl
theorem infoU8 : (Tryd.prog.info? 5).map (fun i => (i.zero, i.size, i.bytes)) = some (some (.int .u8 0), 1, 1) := by kernel_rfl
/-- append(b, s...), s a string, and where the new row lies. -/
theorem append_str_at {P : Program} {ops : Array Oper} {rest : List Oper} {o : Oper} {a : Act} {Q : Exit → Act → World → Prop} {w0 W : World} (base : Nat) (hgd : o.guard = none) (s x : Operand) (t u e : TypeId)
    (ho : o.op = .call { callee := .builtin .append, args := #[s, x], argTypes := #[t, u] })
    (ht : P.underlying t = some (.slice e)) (hu : P.underlying u = some .string) (hinfo : (P.info? e).map (fun i => (i.zero, i.size, i.bytes)) = some (some (.int .u8 0), 1, 1))
    (v : Value) (xs : List Int) (y : ByteArray) (hs : a.eval s = v) (hx : a.eval x = .string y)
    (HO : W.ownsRow base e 1 v xs.length (nums .u8 xs)) (HB : Below base w0 W) (hbase : base ≤ W.heap.size) (hl : xs.length + y.size ≤ 140737488355328)
    (h : ∀ v1 w1, w1.ownsRow base e 1 v1 (xs ++ bytesOf y).length (nums .u8 (xs ++ bytesOf y)) → Below base w0 w1 → W.grownBy w1 v.ownBlock → (v1.ownBlock = v.ownBlock ∨ ∃ b, v1.ownBlock = some b ∧ W.heap.size ≤ b) → wpList P ops Q rest (a.put o.dst v1) w1) :
    wpList P ops Q (o :: rest) a W := by
  obtain ⟨i0, hi, hzz⟩ := Option.map_eq_some_iff.1 hinfo
  simp only [Prod.mk.injEq] at hzz
  obtain ⟨hz0, hz1, hz2⟩ := hzz
  refine wpList_plain hgd fun K hK => ?_
  obtain ⟨v', w', hr, h2, h3, h4⟩ := Lib.run_append_own_string (P := P) W base t u o.type e i0 ht hu hi hz0 hz1 hz2 v xs.length (nums .u8 xs) HO y (by simp only [maxLen]; omega) hl hbase
  have hat : v'.ownBlock = v.ownBlock ∨ ∃ b, v'.ownBlock = some b ∧ W.heap.size ≤ b := by
    rcases HO.2 with ⟨rfl, h0⟩ | ⟨g, cap, cur, rfl, hbg, hg, hnc, hcm, hcs, htake⟩
    · by_cases hm : y.size = 0
      · exact .inl (by rw [h4.mpr ⟨rfl, hm⟩])
      · have hr2 := run_append_nil_string (P := P) W t u o.type e i0 (.int .u8 0) ht hu hi hz0 y (by omega) (by omega) (by rw [hz2]; omega)
        rw [hr] at hr2
        injection hr2 with hv _
        exact .inr ⟨_, by rw [hv]; rfl, Nat.le_refl _⟩
    · by_cases hroom : xs.length + y.size ≤ cap
      · have hr2 := Lib.run_append_room_string (P := P) W t u o.type e i0 ht hu hi hz1 g xs.length cap cur hg y hroom (by simp at hcs; omega)
        rw [hr] at hr2
        injection hr2 with hv _
        exact .inl (by rw [hv]; rfl)
      · have holds : ∀ j u, (nums .u8 xs)[j]? = some u → W.cell? ((⟨g, 0, none⟩ : Addr).add j) = some u := HO.cells (g := g) rfl
        have hr2 := Lib.run_append_grow_string (P := P) W t u o.type e i0 (.int .u8 0) ht hu hi hz0 ⟨g, 0, none⟩ xs.length cap (nums .u8 xs) (by rw [hz1]; simpa using HO.1) holds y (by omega) (by omega) (by rw [hz2]; exact growslice_fits (by omega) (by omega))
        rw [hr] at hr2
        injection hr2 with hv _
        exact .inr ⟨_, by rw [hv]; rfl, Nat.le_refl _⟩
  have hl2 : (xs ++ bytesOf y).length = xs.length + y.size := by rw [List.length_append, bytesOf_length]
  have hc : nums .u8 (xs ++ bytesOf y) = nums .u8 xs ++ Lib.strCells y := by
    rw [nums_append]
    congr 1
    simp [nums, bytesOf, Lib.strCells]
  unfold Oper.wp execOp
  simp only [ho, resolve, invoke, builtin, Sem.run_bind, Sem.run_pure, Result.andThen_ok, List.map_toArray, List.map_cons, List.map_nil, hs, hx, hr]
  exact hK _ _ (h v' w' (by rw [hl2, hc]; exact h2) (HB.grown h3 hbase (own_base HO)) h3 hat)
theorem grownBy_setCell1_b (W : World) (b : Nat) (v : Value) : W.grownBy (W.setCell ⟨b, 1, none⟩ v) (some b) :=
  ⟨rfl, rfl, rfl, by simp [World.setCell], fun k _ hk => Below.heap_setCell _ _ _ k (fun e => hk (by rw [e]))⟩
/-- A builder at b: its bytes; the blocks that it may write are told by ok. -/
def Bld (W : World) (base b : Nat) (ok : Nat → Prop) (bs : List Int) : Prop :=
  base ≤ b ∧ ok b ∧ ∃ p v, (p = .pointer none ∨ p = .pointer (some ⟨b, 0, none⟩)) ∧ W.heap[b]? = some (.cells #[p, v] 42 (0, 0)) ∧ W.ownsRow base 5 1 v bs.length (nums .u8 bs) ∧ ∀ k, v.ownBlock = some k → ok k
theorem grownBy_setCell0_b (W : World) (b : Nat) (v : Value) : W.grownBy (W.setCell ⟨b, 0, none⟩ v) (some b) :=
  ⟨rfl, rfl, rfl, by simp [World.setCell], fun k _ hk => Below.heap_setCell _ _ _ k (fun e => hk (by rw [e]))⟩
theorem ownsRow_not_b {W : World} {base b : Nat} {e T : TypeId} {size n : Nat} {v : Value} {xs cs : List Value} (h : W.ownsRow base e size v n xs) (hb : W.heap[b]? = some (.cells cs.toArray T (0, 0))) (hT : T ≠ e) : v.ownBlock = none ∨ v.ownBlock ≠ some b := by
  rcases h.2 with ⟨rfl, _⟩ | ⟨g, cap, cur, rfl, _, hgb, _⟩
  · exact .inl rfl
  · refine .inr fun e' => ?_
    have : g = b := by simpa [Value.ownBlock] using e'
    subst this
    rw [hgb] at hb
    injection hb with hb
    injection hb with _ hb
    exact hT hb.symm
set_option maxHeartbeats 1000000 in
set_option maxRecDepth 100000 in
theorem copyCheck_used (b : Nat) (w : World) (h0 : w.cell? ⟨b, 0, none⟩ = some (.pointer (some ⟨b, 0, none⟩))) :
    Calls Tryd.prog 38 #[.pointer (some ⟨b, 0, none⟩)] w fun e w' => e = .returned (.tuple #[]) ∧ w' = w := by
  obtain ⟨j, hj, _⟩ := Option.map_eq_some_iff.1 size42
  go_enter Tryd.func38, Tryd.ntmps38
  go_wp2
  try rw [Lib.run_neq_ptr_same w _ Tryd.underlying40 hj]
  try go_wp2
  go_end0
  exact ⟨rfl, rfl⟩
set_option maxHeartbeats 1000000 in
set_option maxRecDepth 100000 in
theorem copyCheck_fresh (b : Nat) (w : World) (h0 : w.cell? ⟨b, 0, none⟩ = some (.pointer none)) (hsh : w.shape? b = some (42, 2)) (hfz : w.frozen? ⟨b, 0, none⟩ = false) :
    Calls Tryd.prog 38 #[.pointer (some ⟨b, 0, none⟩)] w fun e w' => e = .returned (.tuple #[]) ∧ w' = w.setCell ⟨b, 0, none⟩ (.pointer (some ⟨b, 0, none⟩)) := by
  obtain ⟨j, hj, hjs⟩ := Option.map_eq_some_iff.1 size42
  go_enter Tryd.func38, Tryd.ntmps38
  go_wp2
  rw [Lib.run_to_unsafe w ⟨b, 0, none⟩ Tryd.underlying40 Tryd.underlying71 hj (by rw [hjs]; decide) hsh (Nat.zero_lt_succ 1)]
  simp only [Result.andThen]
  rw [Oper.upon_value]
  go_wp2
  rw [run_callFunc_extern Tryd.func47 (by kernel_rfl) (by kernel_rfl) (by kernel_rfl) (e := Extern.AbiNoEscape.same) (by kernel_rfl)]
  rw [Lib.run_noEscape]
  simp only [Result.andThen]
  rw [Oper.upon_value]
  go_wp2
  rw [Lib.run_from_unsafe w ⟨b, 0, none⟩ Tryd.underlying71 Tryd.underlying40 hj hsh lies42]
  simp only [Result.andThen]
  rw [Oper.upon_value]
  go_wp2
  go_end0
  exact ⟨rfl, rfl⟩
/-- Behind copyCheck: the builder is used; all else stands. -/
theorem copyCheck.walk (base b : Nat) (ok : Nat → Prop) (bs : List Int) (w : World) (h : Bld w base b ok bs) :
    Calls Tryd.prog 38 #[.pointer (some ⟨b, 0, none⟩)] w fun e w' => e = .returned (.tuple #[]) ∧ ∃ v, w'.heap[b]? = some (.cells #[.pointer (some ⟨b, 0, none⟩), v] 42 (0, 0)) ∧ w'.ownsRow base 5 1 v bs.length (nums .u8 bs) ∧ (∀ k, v.ownBlock = some k → ok k) ∧ w'.heap.size = w.heap.size ∧ Below base w w' ∧ Kept w w' (fun k => k = b) := by
  obtain ⟨hB, hob, p, v, hp, hbk, hown, hok⟩ := h
  have hc : w.cell? ⟨b, 0, none⟩ = some p := (blk_cell hbk 0).trans rfl
  rcases hp with rfl | rfl
  · refine (copyCheck_fresh b w hc (by simp [World.shape?, hbk]) (blk_frozen hbk 0)).mono ?_
    rintro e w' ⟨rfl, rfl⟩
    have hg := grownBy_setCell0_b w b (.pointer (some ⟨b, 0, none⟩))
    exact ⟨rfl, v, blk_put hbk 0 (.pointer (some ⟨b, 0, none⟩)) rfl, hown.kept hg (ownsRow_not_b hown hbk (by decide)), hok, by simp [World.setCell], (Below.refl base w).setCell (p := ⟨b, 0, none⟩) hB _, kept_set w ⟨b, 0, none⟩ _⟩
  · refine (copyCheck_used b w hc).mono ?_
    rintro e w' ⟨rfl, rfl⟩
    exact ⟨rfl, v, hbk, hown, hok, rfl, Below.refl _ _, Kept.refl _ _⟩
theorem Bld.fold {w w1 w2 : World} {base b : Nat} {ok : Nat → Prop} {bs bs' : List Int} {v v' : Value} (hB : base ≤ b) (hob : ok b) (hbk : w1.heap[b]? = some (.cells #[.pointer (some ⟨b, 0, none⟩), v] 42 (0, 0))) (hsz : w.heap.size ≤ w1.heap.size) (hown1 : w1.ownsRow base 5 1 v bs.length (nums .u8 bs)) (hok : ∀ k, v.ownBlock = some k → ok k) (hb1 : Below base w w1) (hk1 : Kept w w1 ok)
    (hbase : base ≤ w.heap.size) (hown : w2.ownsRow base 5 1 v' bs'.length (nums .u8 bs')) (hg : w1.grownBy w2 v.ownBlock) (hat : v'.ownBlock = v.ownBlock ∨ ∃ q, v'.ownBlock = some q ∧ w1.heap.size ≤ q) :
    Bld (w2.setCell ⟨b, 1, none⟩ v') base b (fun k => ok k ∨ w.heap.size ≤ k) bs' ∧ Below base w (w2.setCell ⟨b, 1, none⟩ v') ∧ Kept w (w2.setCell ⟨b, 1, none⟩ v') ok := by
  have hlt := blk_lt hbk
  have hb2 : w2.heap[b]? = some (.cells #[.pointer (some ⟨b, 0, none⟩), v] 42 (0, 0)) := by
    rw [hg.block b hlt (fun e => by
      rcases ownsRow_not_b hown1 hbk (by decide) with hv | hv
      · rw [hv] at e; cases e
      · exact hv e.symm)]
    exact hbk
  have hS : ∀ k, v'.ownBlock = some k → ok k ∨ w.heap.size ≤ k := fun k hk => by
    rcases hat with hat | ⟨q, hq, hle⟩
    · exact .inl (hok k (hat ▸ hk))
    · rw [hq] at hk
      injection hk with hk
      exact .inr (by omega)
  have hgs : (w2.setCell ⟨b, 1, none⟩ v').heap[b]? = _ := blk_put hb2 1 v' rfl
  have hrow := hown.kept (grownBy_setCell1_b w2 b v') (ownsRow_not_b hown hb2 (by decide))
  refine ⟨⟨hB, .inl hob, _, v', .inr rfl, hgs, hrow, hS⟩, ?_, ?_⟩
  · exact (hb1.grown hg (Nat.le_trans hbase hsz) (fun k hk => (hown1.lt k hk).1)).setCell (p := ⟨b, 1, none⟩) hB _
  · refine (Kept.of_grown hg hk1 (fun k hk => .inl (hok k hk))).setCell (p := ⟨b, 1, none⟩) (.inl hob) _
set_option maxHeartbeats 4000000 in
set_option maxRecDepth 100000 in
theorem WriteByte.walk (base b : Nat) (ok : Nat → Prop) (bs : List Int) (c : Int) (w : World) (h : Bld w base b ok bs) (hbase : base ≤ w.heap.size) (hl : bs.length ≤ 1000000) :
    Calls Tryd.prog 24 #[.pointer (some ⟨b, 0, none⟩), .int .u8 c] w fun e w' => e = .returned .nilIface ∧ Bld w' base b (fun k => ok k ∨ w.heap.size ≤ k) (bs ++ [c]) ∧ Below base w w' ∧ Kept w w' ok := by
  have hB := h.1
  have hob := h.2.1
  go_enter Tryd.func24, Tryd.ntmps24
  go_wp2_with (go_at_call 38; refine (copyCheck.walk base b ok bs _ h).mono ?_)
  rintro e w1 ⟨rfl, v, hbk, hown, hok, hsz_, hb1, hk1⟩
  have HSZ := Aside0.mk hsz_
  clear hsz_
  have c0 : w1.cell? ⟨b, 0, none⟩ = some (.pointer (some ⟨b, 0, none⟩)) := (blk_cell hbk 0).trans rfl
  have c1 : w1.cell? ⟨b, 1, none⟩ = some v := (blk_cell hbk 1).trans rfl
  have HO : (Kd.int .u8).R 5 w1 base (fun k => ok k ∨ w.heap.size ≤ k) v bs := Kd.R_mono (Kd.R_of_own hown hok) (fun _ hk => Or.inl hk)
  go_wp2_with (at_builtin; refine Kd.R_append (Kd.int .u8) (w0 := w) base rfl (.tmp 11) (.tmp 13) 23 5 (.int .u8 0) 1 rfl Tryd.underlying23 infoU8 rfl (by decide) (by omega) v bs c [.int .u8 c] (fun k => ok k ∨ w.heap.size ≤ k) (fun _ => False) rfl rfl rfl (fun _ hk => hk.elim) (fun k hk => .inr (by have := HSZ.out; omega)) HO hb1 (by have := HSZ.out; omega) (by omega) ?_)
  intro v1 w2 ho hb hg hat
  obtain ⟨A_, c_, e_⟩ := Kd.R_slice ho
  subst e_
  have hlt := blk_lt hbk
  have hb2 : w2.heap[b]? = some (.cells #[.pointer (some ⟨b, 0, none⟩), v] 42 (0, 0)) := by
    rw [hg.block b hlt (fun e => by
      rcases ownsRow_not_b hown hbk (by decide) with hv | hv
      · rw [hv] at e; cases e
      · exact hv e.symm)]
    exact hbk
  have d0 : w2.cell? ⟨b, 0, none⟩ = some (.pointer (some ⟨b, 0, none⟩)) := (blk_cell hb2 0).trans rfl
  have d1 : w2.cell? ⟨b, 1, none⟩ = some v := (blk_cell hb2 1).trans rfl
  have f1 := blk_frozen hb2 1
  have ho2 : w2.ownsRow base 5 1 (.slice A_ (bs ++ [c]).length c_) (bs ++ [c]).length (nums .u8 (bs ++ [c])) := Kd.own_of_R ho
  go_wp2
  go_ret
  exact ⟨rfl, Bld.fold hB hob hbk (by have := HSZ.out; omega) hown hok hb1 (hk1.mono (fun k hk => by rw [hk]; exact hob)) hbase (by simpa only [List.length_append, List.length_singleton] using ho2) hg (by simpa only [List.length_append, List.length_singleton] using hat)⟩
set_option maxHeartbeats 4000000 in
set_option maxRecDepth 100000 in
theorem WriteString.walk (base b : Nat) (ok : Nat → Prop) (bs : List Int) (s : ByteArray) (w : World) (h : Bld w base b ok bs) (hbase : base ≤ w.heap.size) (hl : bs.length + s.size ≤ 1000000) :
    Calls Tryd.prog 25 #[.pointer (some ⟨b, 0, none⟩), .string s] w fun e w' => (∃ n, e = .returned (.tuple #[.int .i64 n, .nilIface])) ∧ Bld w' base b (fun k => ok k ∨ w.heap.size ≤ k) (bs ++ bytesOf s) ∧ Below base w w' ∧ Kept w w' ok := by
  have hB := h.1
  have hob := h.2.1
  go_enter Tryd.func25, Tryd.ntmps25
  go_wp2_with (go_at_call 38; refine (copyCheck.walk base b ok bs _ h).mono ?_)
  rintro e w1 ⟨rfl, v, hbk, hown, hok, hsz_, hb1, hk1⟩
  have HSZ := Aside0.mk hsz_
  clear hsz_
  have c0 : w1.cell? ⟨b, 0, none⟩ = some (.pointer (some ⟨b, 0, none⟩)) := (blk_cell hbk 0).trans rfl
  have c1 : w1.cell? ⟨b, 1, none⟩ = some v := (blk_cell hbk 1).trans rfl
  go_wp2_with (at_builtin; refine append_str_at (w0 := w) base rfl (.tmp 12) (.tmp 13) 23 9 5 rfl Tryd.underlying23 Tryd.underlying9 infoU8 v bs s rfl rfl hown hb1 (by have := HSZ.out; omega) (by omega) ?_)
  intro v1 w2 ho hb hg hat
  obtain ⟨A_, c_, e_⟩ : ∃ A c, v1 = .slice A (bs ++ bytesOf s).length c := by
    rw [List.length_append]
    rcases ho.2 with ⟨hv, h0⟩ | ⟨g, cap, cur, hv, _⟩
    · exact ⟨none, 0, by rw [hv, h0]⟩
    · exact ⟨_, _, hv⟩
  have hlt := blk_lt hbk
  have hb2 : w2.heap[b]? = some (.cells #[.pointer (some ⟨b, 0, none⟩), v] 42 (0, 0)) := by
    rw [hg.block b hlt (fun e => by
      rcases ownsRow_not_b hown hbk (by decide) with hv | hv
      · rw [hv] at e; cases e
      · exact hv e.symm)]
    exact hbk
  have d0 : w2.cell? ⟨b, 0, none⟩ = some (.pointer (some ⟨b, 0, none⟩)) := (blk_cell hb2 0).trans rfl
  have d1 : w2.cell? ⟨b, 1, none⟩ = some v := (blk_cell hb2 1).trans rfl
  have f1 := blk_frozen hb2 1
  subst e_
  go_wp2
  go_ret2
  exact ⟨⟨_, rfl⟩, Bld.fold hB hob hbk (by have := HSZ.out; omega) hown hok hb1 (hk1.mono (fun k hk => by rw [hk]; exact hob)) hbase (by simpa only [List.length_append] using ho) hg (by simpa only [List.length_append] using hat)⟩
end Go.Proofs.YtmhfgcmgeglmhaaDoor.P

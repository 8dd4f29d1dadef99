import Derived.Test.YtmhfgcmgeglmhaaDoorP21B
namespace Go.Proofs.YtmhfgcmgeglmhaaDoor.P
open Go.RowKit Go.Proofs.YtmhfgcmgeglmhaaDoorW.PrintWords Go.Proofs.YtmhfgcmgeglmhaaDoorW.PrintLast Go.Proofs.YtmhfgcmgeglmhaaDoorW.PrintMore
attribute [local go_sem] max2_int min2_int max_two min_two max_three min_three max_four min_four
set_option linter.unusedVariables false
set_option linter.unusedSimpArgs false
theorem conv_q {P : Program} {ops : Array Oper} {rest : List Oper} {o : Oper} {a : Act} {Q : Exit → Act → World → Prop} {W : World} {src dst e : TypeId} {x : Operand} {u : TypeDesc} (N : Tmp) (hd : o.dst = some N) (hg : o.guard = none) (ho : o.op = .convert src dst x)
    (hs : P.underlying src = some u) (ht : P.underlying dst = some (.slice e)) (he : P.underlying e = some (.int .u8)) (s : ByteArray) (hx : a.eval x = .string s) (hm : s.size ≤ 9223372036854775807)
    (k : ∀ (ad : Addr) (cap : Nat) (w1 : World), (∀ W' : World, W'.heap[W.heap.size]? = w1.heap[W.heap.size]? → ∀ j : Nat, j < s.size → W'.cell? (ad.add j) = some (.int .u8 (bt s j))) → w1.heap.size = W.heap.size + 1 → Below W.heap.size W w1 → wpList P ops Q rest (a.put (some N) (.slice (some ad) s.size cap)) w1) : wpList P ops Q (o :: rest) a W := by
  have hrun : (execOp a.eval o).run P W = .ok (.value (.slice (some ⟨W.heap.size, 0, none⟩) s.size (grownCap W s.size 0 e))) (Lib.bytesWorld W e s) := by
    unfold execOp
    simp only [ho, hx, Sem.run_bind, print_bytes src dst e hs ht he s W, Result.andThen_ok, Sem.run_pure]
  refine Kd.event_run hg hrun ?_
  rw [hd]
  refine k _ _ _ (fun W' hW j hj => ?_) (Lib.bytesWorld_size W e s) (bytes_below (Below.refl _ _) (Nat.le_refl _) e s)
  obtain ⟨ad, h1, h2⟩ := (bytes_reads W e s hm).2.2 (by omega)
  injection h1 with h1
  subst h1
  have h3 := h2 j hj
  rw [add_plain] at h3 ⊢
  have e1 := rd_bytesOf s (j : Int)
  rw [← e1]
  refine (World.cell?_of_block hW).trans (h3.trans ?_)
  simp [rd]
theorem Bld.bound {W : World} {base b : Nat} {ok : Nat → Prop} {bs : List Int} (h : Bld W base b ok bs) : Bld W base b (fun k => ok k ∧ k < W.heap.size) bs := by
  obtain ⟨hB, hob, p, v, hp, hbk, hown, hok⟩ := h
  exact ⟨hB, ⟨hob, blk_lt hbk⟩, p, v, hp, hbk, hown, fun k hk => ⟨hok k hk, (hown.lt k hk).2⟩⟩
theorem Bld.mono {W : World} {base b : Nat} {ok ok' : Nat → Prop} {bs : List Int} (h : Bld W base b ok bs) (hm : ∀ k, ok k → ok' k) : Bld W base b ok' bs := by
  obtain ⟨hB, hob, p, v, hp, hbk, hown, hok⟩ := h
  exact ⟨hB, hm _ hob, p, v, hp, hbk, hown, fun k hk => hm k (hok k hk)⟩
theorem Bld.below {W W' : World} {base b : Nat} {ok : Nat → Prop} {bs : List Int} (h : Bld W base b ok bs) (hb : Below W.heap.size W W') : Bld W' base b ok bs := by
  obtain ⟨hB, hob, p, v, hp, hbk, hown, hok⟩ := h
  exact ⟨hB, hob, p, v, hp, blk_below hbk hb, own_move hown (fun k hk => hb.block k (own_lt hown k hk)), hok⟩
set_option maxHeartbeats 1000000 in
theorem BString.walk (base b : Nat) (ok : Nat → Prop) (bs : List Int) (w : World) (h : Bld w base b ok bs) (hbase : base ≤ w.heap.size) (hr : ∀ x ∈ bs, 0 ≤ x ∧ x ≤ 255) :
    Calls Tryd.prog 27 #[.pointer (some ⟨b, 0, none⟩)] w fun e w' => e = .returned (.string (strOfNums bs)) ∧ Below base w w' := by
  obtain ⟨hB, hob, p, v, hp, hbk, hown, hok⟩ := h
  have e1 : nums .u8 bs = Lib.byteCells (bs.map fun n => UInt8.ofNat n.toNat) := by
    unfold nums Lib.byteCells
    rw [List.map_map]
    refine List.map_congr_left (fun x hx => ?_)
    have := hr x hx
    simp
    omega
  have hF : Lib.BuilderAtF 42 5 base b p (nums .u8 bs) w := Lib.BuilderAtF.of ⟨hB, v, hbk, by simpa [nums] using hown, by
    rcases ownsRow_not_b hown hbk (by decide) with hv | hv
    · rw [hv]; simp
    · exact hv⟩
  rw [e1] at hF
  have hI : Lib.IsBuilderF 42 5 base b (Lib.byteCells (bs.map fun n => UInt8.ofNat n.toNat)) w := by
    rcases hp with rfl | rfl
    · exact .inl hF
    · exact .inr hF
  refine (Tryd.Builder_String_any_k base b (bs.map fun n => UInt8.ofNat n.toNat) w hI hbase).mono ?_
  rintro e w' ⟨rfl, _, hb, _⟩
  exact ⟨rfl, hb⟩
def quotedL (s : ByteArray) : List Int := [34] ++ (bytesOf s).flatMap shownL ++ [34]
theorem hexd_range (n : Int) (h0 : 0 ≤ n) (h1 : n < 16) : 0 ≤ hexd n ∧ hexd n ≤ 255 := by unfold hexd; split <;> omega
theorem shownL_range (c : Int) (h0 : 0 ≤ c) (h1 : c ≤ 255) : ∀ x ∈ shownL c, 0 ≤ x ∧ x ≤ 255 := by
  unfold shownL
  have a := hexd_range (c / 16) (by omega) (by omega)
  have b := hexd_range (c % 16) (by omega) (by omega)
  split
  · intro x hx; simp at hx; omega
  · split
    · intro x hx; simp at hx; omega
    · intro x hx; simp at hx; omega
theorem shownL_len (c : Int) : (shownL c).length ≤ 4 := by unfold shownL; split; · simp
                                                           · split <;> simp
theorem bytesOf_range (s : ByteArray) : ∀ x ∈ bytesOf s, 0 ≤ x ∧ x ≤ 255 := by
  intro x hx
  simp only [bytesOf, List.mem_map] at hx
  obtain ⟨b, _, rfl⟩ := hx
  have := b.toNat_lt
  omega
theorem quotedL_range (s : ByteArray) : ∀ x ∈ quotedL s, 0 ≤ x ∧ x ≤ 255 := by
  intro x hx
  simp only [quotedL, List.mem_append, List.mem_flatMap, List.mem_singleton] at hx
  rcases hx with (rfl | ⟨c, hc, hx⟩) | rfl
  · omega
  · have := bytesOf_range s c hc
    exact shownL_range c this.1 this.2 x hx
  · omega
theorem flat_len (l : List Int) : (l.flatMap shownL).length ≤ 4 * l.length := by
  induction l with
  | nil => simp
  | cons a l ih => have := shownL_len a; simp only [List.flatMap_cons, List.length_append, List.length_cons]; omega
theorem bytes_of_nums {l : List Int} (h : ∀ x ∈ l, 0 ≤ x ∧ x ≤ 255) : bytesOf (strOfNums l) = l := by
  unfold bytesOf strOfNums
  simp only [List.map_map]
  conv => rhs; rw [← List.map_id l]
  refine List.map_congr_left (fun x hx => ?_)
  have := h x hx
  simp
  omega
theorem take_bytes (s : ByteArray) (k : Nat) (hk : k < s.size) : (bytesOf s).take (k + 1) = (bytesOf s).take k ++ [bt s k] := by
  have hl : k < (bytesOf s).length := by rw [bytesOf_length]; exact hk
  rw [List.take_succ_eq_append_getElem hl]
  congr 2
  have := rd_bytesOf s (k : Int)
  rw [← this]
  simp [rd, hl]
theorem check_bad (s : ByteArray) (h : ¬ (1 ≤ s.size ∧ s.size ≤ 24)) : name_Check.f s = some 6 := by
  unfold name_Check.f
  by_cases h0 : (s.size : Int) < 1
  · rw [if_pos h0]
  · rw [if_neg h0, if_pos (by omega)]
set_option maxHeartbeats 4000000 in
set_option maxRecDepth 100000 in
theorem Quote.bad (s : ByteArray) (w : World) (h : ¬ (1 ≤ s.size ∧ s.size ≤ 24)) : Calls Tryd.prog 10 #[.string s] w fun e w' => e = .returned (.tuple #[.string ⟨#[]⟩, .int .i64 6]) ∧ Below w.heap.size w w' := by
  have HC := Aside0.mk (check_bad s h)
  clear h
  go_enter Tryd.func10, Tryd.ntmps10
  go_wp2_with (go_at_call 18; (with_reducible refine (name_Check.calls s 6 _ HC.out).mono ?_); rintro e wc ⟨rfl, ⟨nd, rfl⟩⟩)
  go_ret2
  exact ⟨rfl, by repeat (first | exact Below.refl _ _ | apply below_alloc | apply pw_below_drewN | apply below_drew1)⟩
set_option maxHeartbeats 8000000 in
set_option maxRecDepth 100000 in
theorem Quote.good (s : ByteArray) (w : World) (h1 : 1 ≤ s.size) (h2 : s.size ≤ 24) : Calls Tryd.prog 10 #[.string s] w fun e w' => e = .returned (.tuple #[.string (strOfNums (quotedL s)), .int .i64 0]) ∧ Below w.heap.size w w' := by
  have HC := Aside0.mk (show name_Check.f s = some 0 by unfold name_Check.f; rw [if_neg (by omega), if_neg (by omega)])
  have HB := Aside0.mk (Below.refl w.heap.size w)
  have HS := Aside0.mk h2
  clear h1 h2
  go_enter Tryd.func10, Tryd.ntmps10
  have tok1 : True := trivial
  go_wp2_with (first | (have _ := tok1; go_at_call 18; (with_reducible refine (name_Check.calls s 0 _ HC.out).mono ?_); rintro e w1 ⟨rfl, hd⟩; have hb := hd.below; have hs : Below w.heap.size w w1 := below_step (by repeat (first | exact Below.refl _ _ | apply below_alloc | apply pw_below_drewN | apply below_drew1)) hb; have SZ1 := Aside0.mk (show w.heap.size ≤ w1.heap.size from hs.size); have n_ := Aside0.mk (below_step HB.out hs); clear HB; have HB := n_; clear n_; clear hb hd hs; clear tok1; have tok2 : True := trivial) | (have _ := tok2; (with_reducible refine gate_dst (N := 5) rfl ?_); refine box_event ?hg (N := 5) ?hd (cs := #[.pointer none, .slice none 0 0]) (t := 42) ?hr ?_; (case hd => rfl); (case hg => rfl); (case hr => first | (go_simp; done) | (go_simp; rfl)); intro g5 hg w2 hbox hb; have hs : Below w1.heap.size w1 w2 := below_step (by repeat (first | exact Below.refl _ _ | apply below_alloc | apply pw_below_drewN | apply below_drew1)) hb; have SZ2 := Aside0.mk (show w1.heap.size ≤ g5 ∧ g5 < w2.heap.size from ⟨by rw [hg]; exact (below_size (by repeat (first | exact Below.refl _ _ | apply below_alloc | apply pw_below_drewN | apply below_drew1))), blk_lt hbox⟩); have n_ := Aside0.mk (below_step HB.out hs); clear HB; have HB := n_; clear n_; have BKg5 := Aside0.mk hbox; clear hb hbox hg hs; have hcg5_0 : w2.cell? ⟨g5, 0, none⟩ = some (.pointer none) := (blk_cell BKg5.out 0).trans rfl; have hfg5_0 := blk_frozen BKg5.out 0; have hcg5_1 : w2.cell? ⟨g5, 1, none⟩ = some (.slice none 0 0) := (blk_cell BKg5.out 1).trans rfl; have hfg5_1 := blk_frozen BKg5.out 1; clear tok2; have tok3 : True := trivial) | (have _ := tok3; go_at_call 24; (refine (WriteByte.walk w.heap.size g5 (fun k => k = g5) [] 34 _ ⟨by have := SZ2.out; have := SZ1.out; omega, rfl, _, _, .inl rfl, (by (with_reducible repeat (first | refine blk_drewN ?_ _ | refine blk_drew ?_ | refine blk_alloc ?_ _)); exact BKg5.out), World.ownsRow_nil _ _ _ _, fun _ hk => by cases hk⟩ (below_size (by repeat (first | exact HB.out | apply below_alloc | apply pw_below_drewN | apply below_drew1))) (by simp)).mono ?_); rintro e w3 ⟨rfl, hbld, hb, hk⟩; have n_ := Aside0.mk (Below.trans (by repeat (first | exact HB.out | apply below_alloc | apply pw_below_drewN | apply below_drew1)) hb); clear HB; have HB := n_; have HL := Aside0.mk hbld.bound; clear hb hk hbld n_ hcg5_0 hfg5_0 hcg5_1 hfg5_1 BKg5; clear tok3; have tok4 : True := trivial) | (have _ := tok4; refine conv_q 15 rfl rfl rfl Tryd.underlying9 Tryd.underlying23 Tryd.underlying5 s rfl (by have := HS.out; omega) ?_; intro ad cap w4 hrow hsz hb; have HROW := Aside0.mk hrow; have HSZ4 := Aside0.mk hsz; have n_ := Aside0.mk (below_step HB.out hb); have m_ := Aside0.mk (HL.out.below hb); clear HB HL; have HB := n_; have HL := m_; clear n_ m_ hb hsz hrow; clear tok4))
  clear HC
  have HW34 := Aside0.mk (show w.heap.size ≤ w4.heap.size from HB.out.size)
  go_loopg [17] s.size (fun kq v17 wr => ∃ k : Nat, v17 = .int .i64 (k : Int) ∧ Aside0 (k ≤ s.size ∧ s.size - k ≤ kq) ∧ Aside0 (Bld wr w.heap.size g5 (fun q => (q = g5 ∨ q < w3.heap.size) ∧ q ≠ w3.heap.size ∨ w4.heap.size ≤ q) ([34] ++ ((bytesOf s).take k).flatMap shownL)) ∧ Aside0 (wr.heap[w3.heap.size]? = w4.heap[w3.heap.size]?) ∧ Aside0 (w4.heap.size ≤ wr.heap.size) ∧ Aside0 (Below w.heap.size w wr))
  case atStart =>
    refine ⟨0, rfl, Aside0.mk ⟨by omega, by omega⟩, Aside0.mk (Bld.mono HL.out ?_), Aside0.mk rfl, Aside0.mk (Nat.le_refl _), HB⟩
    intro q hq
    exact .inl ⟨.inr hq.2, by have := hq.2; omega⟩
  case round =>
    clear HB HL
    obtain ⟨k, rfl, AX, HL, HR, HZ, HB⟩ := hrel
    by_cases hlt : k < s.size
    · have hx := HROW.out wr HR.out k hlt
      have b1 : decide ((k : Int) < (s.size : Int)) = true := decide_eq_true (by omega)
      have b2 : decide (k < s.size) = true := decide_eq_true hlt
      have b3 : (k < s.size) = True := eq_true hlt
      have HK := Aside0.mk hlt
      obtain ⟨c, hc⟩ : ∃ c, bt s (k : Int) = c := ⟨_, rfl⟩
      have HCC := Aside0.mk hc
      have HRG := Aside0.mk (show 0 ≤ c ∧ c ≤ 255 by rw [← hc]; exact bt_range s k)
      rw [hc] at hx
      clear hlt hc
      go_wp2_with (first | (go_at_call 26; (with_reducible refine (shown.walk c _ HRG.out.1 HRG.out.2).mono ?_); rintro e w5 ⟨rfl, hb⟩; have n1_ := Aside0.mk (HL.out.below hb); have n2_ := Aside0.mk ((hb.block _ (by have := HZ.out; have := HSZ4.out; omega)).trans HR.out); have n3_ := Aside0.mk (Nat.le_trans HZ.out hb.size); have n4_ := Aside0.mk (below_step HB.out hb); clear hb HL HR HZ HB hx; have HL := n1_; have HR := n2_; have HZ := n3_; have HB := n4_; clear n1_ n2_ n3_ n4_) | (go_at_call 25; (with_reducible refine (WriteString.walk w.heap.size g5 _ _ (strOfNums (shownL c)) _ HL.out HB.out.size ?sl).mono ?_); (case sl => have h1 := flat_len ((bytesOf s).take k); have h2 := HS.out; have h3 := HK.out; have h4 := shownL_len c; rw [strOfNums_size]; simp only [List.length_append, List.length_take, bytesOf_length, List.length_cons, List.length_nil] at h1 ⊢; omega); rintro e w6 ⟨⟨n_, rfl⟩, hl, hb, hk⟩; have n1_ := Aside0.mk hl; have n2_ := Aside0.mk ((hk.2 _ (by have := HZ.out; have := HSZ4.out; omega) (by intro hq; have := HSZ4.out; rcases hq with ⟨_, hq⟩ | hq <;> omega)).trans HR.out); have n3_ := Aside0.mk (Nat.le_trans HZ.out hk.1); have n4_ := Aside0.mk (Below.trans HB.out hb); have n5_ := HZ.out; clear hb hk hl HL HR HZ HB; have HL := n1_; have HR := n2_; have HZ := n3_; have HB := n4_; have HZ0 := Aside0.mk n5_; clear n1_ n2_ n3_ n4_ n5_))
      go_roundg (gk - 1)
      case measure =>
        have := AX.out
        have := HK.out
        omega
      case rel =>
        have h1 := AX.out
        have h2 := HK.out
        have h3 := HS.out
        refine ⟨k + 1, by rw [show wrap64 ((k : Int) + 1) = ((k + 1 : Nat) : Int) by unfold wrap64; omega], Aside0.mk ⟨by omega, by omega⟩, Aside0.mk ?_, HR, HZ, HB⟩
        have hl := HL.out
        have hz0 := HZ0.out
        rw [take_bytes s k h2, HCC.out, List.flatMap_append, List.flatMap_singleton, ← List.append_assoc]
        rw [bytes_of_nums (shownL_range c HRG.out.1 HRG.out.2)] at hl
        refine Bld.mono hl ?_
        intro q hq
        rcases hq with hq | hq
        · exact hq
        · exact .inr (by omega)
    · have b1 : decide ((k : Int) < (s.size : Int)) = false := decide_eq_false (by omega)
      have b2 : decide (k < s.size) = false := decide_eq_false hlt
      have e : k = s.size := by
        have := AX.out
        omega
      subst e
      have e2 : (bytesOf s).take s.size = bytesOf s := List.take_of_length_le (by rw [bytesOf_length]; exact Nat.le_refl _)
      have hl := HL.out
      rw [e2] at hl
      have HL2 := Aside0.mk hl
      clear hlt hl e2 HL
      go_wp2_with (first | (go_at_call 24; (with_reducible refine (WriteByte.walk w.heap.size g5 _ _ 34 _ HL2.out HB.out.size ?sl).mono ?_); (case sl => have h1 := flat_len (bytesOf s); have h2 := HS.out; simp only [List.length_append, bytesOf_length, List.length_cons, List.length_nil] at h1 ⊢; omega); rintro e w7 ⟨rfl, hl, hb, hk⟩; have n1_ := Aside0.mk (show Bld w7 w.heap.size g5 _ (quotedL s) from hl); have n4_ := Aside0.mk (Below.trans HB.out hb); clear hb hk hl HL2 HB; have HL := n1_; have HB := n4_; clear n1_ n4_) | (go_at_call 27; (with_reducible refine (BString.walk w.heap.size g5 _ _ _ HL.out HB.out.size (quotedL_range s)).mono ?_); rintro e w8 ⟨rfl, hb⟩; have n4_ := Aside0.mk (Below.trans HB.out hb); clear hb HB; have HB := n4_; clear n4_))
      go_ret2
      exact ⟨rfl, HB.out⟩
def name_Quote.f (s : ByteArray) : Option (ByteArray × Int) := some (if 1 ≤ s.size ∧ s.size ≤ 24 then (strOfNums (quotedL s), 0) else (⟨#[]⟩, 6))
theorem name_Quote.calls (a0 : ByteArray) (r1 : ByteArray) (r2 : Int) (w : World) (h : name_Quote.f a0 = some (r1, r2)) :
    Calls Tryd.prog 10 #[.string a0] w fun e w' => e = .returned (.tuple #[.string r1, .int .i64 r2]) ∧ Below w.heap.size w w' := by
  unfold name_Quote.f at h
  by_cases hs : 1 ≤ a0.size ∧ a0.size ≤ 24
  · rw [if_pos hs] at h
    injection h with h
    injection h with h1 h2
    subst h1 h2
    exact Quote.good a0 w hs.1 hs.2
  · rw [if_neg hs] at h
    injection h with h
    injection h with h1 h2
    subst h1 h2
    exact Quote.bad a0 w hs
end Go.Proofs.YtmhfgcmgeglmhaaDoor.P

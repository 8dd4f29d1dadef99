import Derived.Test.YtemmhgfjfbdggaaP08D
import Derived.Test.YtemmhgfjfbdggaaWArr
namespace Go.Proofs.Ytemmhgfjfbdggaa.P
open Go.RowKit Go.Proofs.YtemmhgfjfbdggaaW.PrintWords Go.Proofs.YtemmhgfjfbdggaaW.PrintLast Go.Proofs.YtemmhgfjfbdggaaW.PrintMore
attribute [local go_sem] max2_int min2_int max_two min_two max_three min_three max_four min_four
set_option linter.unusedVariables false
set_option linter.unusedSimpArgs false
/-- A row is stored into a row of rows. -/
theorem R_put_row {α : Type} {d : Kd α} {e e' base g n cap i : Nat} {ok : Nat → Prop} {W : World} {xs : List (List α)} {x : List α} {v : Value}
    (h : (Kd.slice e' d).R e W base ok (.slice (some ⟨g, 0, none⟩) n cap) xs) (hi : i < xs.length) (hv : d.R e' W base (fun k => ok k ∧ k ≠ g) v x) :
    (Kd.slice e' d).R e (W.setCell ⟨g, i, none⟩ v) base ok (.slice (some ⟨g, 0, none⟩) n cap) (xs.set i x) ∧ W.grownBy (W.setCell ⟨g, i, none⟩ v) (some g) := by
  obtain ⟨rfl, _⟩ := Kd.R_reads' h
  obtain ⟨h0, inner, hown, hr⟩ := h
  have hs := hown.stored i v
  refine ⟨⟨h0, inner.set i v, by rw [List.length_set]; exact hs.1, ?_⟩, hs.2⟩
  have hg : ∀ k, some k ≠ (Value.slice (some ⟨g, 0, none⟩) xs.length cap).ownBlock → k ≠ g := fun k hk e => hk (by rw [e]; rfl)
  have hr' : Reps ((Kd.slice e' d).M (W.setCell ⟨g, i, none⟩ v) base (fun k => ok k ∧ some k ≠ (Value.slice (some ⟨g, 0, none⟩) xs.length cap).ownBlock)) 1 xs inner := by
    refine Reps.imp_ hr (fun p c hp => ?_)
    obtain ⟨u, e, hR⟩ := hp
    exact ⟨u, e, Kd.R_far hR (p := ⟨g, i, none⟩) (fun k hk => hg k hk.2) v⟩
  have hx : (Kd.slice e' d).M (W.setCell ⟨g, i, none⟩ v) base (fun k => ok k ∧ some k ≠ (Value.slice (some ⟨g, 0, none⟩) xs.length cap).ownBlock) x [v] :=
    ⟨v, rfl, Kd.R_far (Kd.R_mono hv (fun k hk => ⟨hk.1, fun e => hk.2 (by injection e)⟩)) (p := ⟨g, i, none⟩) (fun k hk => hg k hk.2) v⟩
  have := Kd.reps_set hr' hi hx rfl
  have e2 : inner.set i v = inner.take (i * 1) ++ [v] ++ inner.drop (i * 1 + [v].length) := by
    have hl : i < inner.length := by have := hr.1; simp only [Kd.slice, Nat.mul_one] at this; omega
    rw [List.set_eq_take_append_cons_drop, if_pos hl]
    simp
  rw [e2]
  exact this
theorem R_cell_row {α : Type} {d : Kd α} {e e' base g n cap i : Nat} {ok : Nat → Prop} {W : World} {xs : List (List α)}
    (h : (Kd.slice e' d).R e W base ok (.slice (some ⟨g, 0, none⟩) n cap) xs) (hi : i < xs.length) : ∃ u, W.cell? ⟨g, i, none⟩ = some u ∧ W.frozen? ⟨g, i, none⟩ = false := by
  obtain ⟨rfl, _⟩ := Kd.R_reads' h
  obtain ⟨h0, inner, hown, hr⟩ := h
  have hl : inner.length = xs.length := by
    have := hr.1
    simpa [Kd.slice] using this
  refine ⟨inner[i]'(by omega), ?_, World.ownsRow.frozenAt hown i⟩
  rw [World.ownsRow.cellAt hown i (by simpa [Kd.slice] using hi)]
  simp
theorem bytes_elem {w : World} {A : Option Addr} {l : List (List Int)} (h : Kd.C (Kd.slice 5 (Kd.int .u8)) w A l.length l) (k : Nat) (hk : k < l.length) :
    ∃ (ad : Addr) (x : List Int), A = some ad ∧ l.take (k + 1) = l.take k ++ [x] ∧ x ∈ l ∧ ∃ B c, w.cell? (ad.add k) = some (.slice B x.length c) ∧ x.length ≤ c ∧ Kd.C (Kd.int .u8) w B x.length x := by
  obtain ⟨ad, cs, e, hl, hK, hc⟩ := Kd.C_get h [] (k : Int) (by omega) (by omega)
  obtain ⟨B, c, rfl, hle, hC⟩ := hK
  have e1 : l.getD ((k : Int).toNat) [] = l[k] := by simp [hk]
  rw [e1] at hle hC hc
  refine ⟨ad, l[k], e, List.take_succ_eq_append_getElem hk, List.getElem_mem hk, B, c, ?_, hle, hC⟩
  have := hc 0 _ rfl
  simpa [Kd.slice] using this
theorem filled_step (l : List (List Int)) (k : Nat) (x : List Int) (hk : k < l.length) (e : l.take (k + 1) = l.take k ++ [x]) :
    (l.take k ++ List.replicate (l.length - k) []).set k x = l.take (k + 1) ++ List.replicate (l.length - (k + 1)) [] := by
  have hl : (l.take k).length = k := by rw [List.length_take]; omega
  rw [show l.length - k = (l.length - (k + 1)) + 1 by omega, List.replicate_succ, List.set_append_right _ _ (by omega), hl, Nat.sub_self, List.set_cons_zero, e, List.append_assoc]
  rfl
/-- The drives among the first k that are told to be gone. -/
def wipedOf (k : Nat) (gone : List Bool) : List Int := ((List.range k).filter fun i : Nat => gone.getD i false).map fun i : Nat => (i : Int)
theorem wipedOf_yes {k : Nat} {gone : List Bool} (h : gone.getD k false = true) : wipedOf (k + 1) gone = wipedOf k gone ++ [(k : Int)] := by
  unfold wipedOf
  rw [List.range_succ, List.filter_append, List.map_append, List.filter_cons_of_pos (p := fun i : Nat => gone.getD i false) (a := k) (l := []) h]
  rfl
theorem wipedOf_no {k : Nat} {gone : List Bool} (h : gone.getD k false = false) : wipedOf (k + 1) gone = wipedOf k gone := by
  unfold wipedOf
  rw [List.range_succ, List.filter_append, List.map_append, List.filter_cons_of_neg (p := fun i : Nat => gone.getD i false) (a := k) (l := []) (by rw [h]; decide)]
  simp
theorem wipedOf_len (k : Nat) (gone : List Bool) : (wipedOf k gone).length ≤ k := by
  unfold wipedOf
  rw [List.length_map]
  exact Nat.le_trans (List.length_filter_le _ _) (by simp)
theorem infoI64 : (Try.prog.info? 3).map (fun i => (i.zero, i.size, i.bytes)) = some (some (.int .i64 0), 1, 8) := by kernel_rfl
set_option maxHeartbeats 8000000 in
set_option maxRecDepth 100000 in
theorem Wiped_yes (D dr : Nat) (a b c d sz : Int) (off : Bool) (cut wr : Int) (As Ag : Option Addr) (ns cs cg : Nat) (gone : List Bool) (w : World) (hD : w.heap[D]? = some (.cells #[.pointer (some ⟨dr, 0, none⟩), .bool off, .int .i64 cut, .int .i64 wr] 58 (0, 0))) (hR : w.heap[dr]? = some (.cells #[.int .i64 a, .int .i64 b, .int .i64 c, .int .i64 d, .int .i64 sz, .slice As ns cs, .slice Ag gone.length cg] 78 (0, 0))) (hG : Kd.C Kd.bool w Ag gone.length gone) (hl : gone.length ≤ 1000000) : Calls Try.prog 25 #[.pointer (some ⟨D, 0, none⟩)] w fun e w' => ∃ v : Value, e = .returned v ∧ Kd.R (Kd.int .i64) 3 w' w.heap.size (fun _ => True) v (wipedOf gone.length gone) ∧ Below w.heap.size w w' := by
  have HB := Aside0.mk (Below.refl w.heap.size w)
  have BKD := Aside0.mk hD
  have BKdr := Aside0.mk hR
  have HG := Aside0.mk hG
  have HL := Aside0.mk hl
  clear hD hR hG hl
  have hcD_0 : w.cell? ⟨D, 0, none⟩ = some (.pointer (some ⟨dr, 0, none⟩)) := (blk_cell BKD.out 0).trans rfl
  have hfD_0 := blk_frozen BKD.out 0
  have hcD_1 : w.cell? ⟨D, 1, none⟩ = some (.bool off) := (blk_cell BKD.out 1).trans rfl
  have hfD_1 := blk_frozen BKD.out 1
  have hcD_2 : w.cell? ⟨D, 2, none⟩ = some (.int .i64 cut) := (blk_cell BKD.out 2).trans rfl
  have hfD_2 := blk_frozen BKD.out 2
  have hcD_3 : w.cell? ⟨D, 3, none⟩ = some (.int .i64 wr) := (blk_cell BKD.out 3).trans rfl
  have hfD_3 := blk_frozen BKD.out 3
  have hcdr_0 : w.cell? ⟨dr, 0, none⟩ = some (.int .i64 a) := (blk_cell BKdr.out 0).trans rfl
  have hfdr_0 := blk_frozen BKdr.out 0
  have hcdr_1 : w.cell? ⟨dr, 1, none⟩ = some (.int .i64 b) := (blk_cell BKdr.out 1).trans rfl
  have hfdr_1 := blk_frozen BKdr.out 1
  have hcdr_2 : w.cell? ⟨dr, 2, none⟩ = some (.int .i64 c) := (blk_cell BKdr.out 2).trans rfl
  have hfdr_2 := blk_frozen BKdr.out 2
  have hcdr_3 : w.cell? ⟨dr, 3, none⟩ = some (.int .i64 d) := (blk_cell BKdr.out 3).trans rfl
  have hfdr_3 := blk_frozen BKdr.out 3
  have hcdr_4 : w.cell? ⟨dr, 4, none⟩ = some (.int .i64 sz) := (blk_cell BKdr.out 4).trans rfl
  have hfdr_4 := blk_frozen BKdr.out 4
  have hcdr_5 : w.cell? ⟨dr, 5, none⟩ = some (.slice As ns cs) := (blk_cell BKdr.out 5).trans rfl
  have hfdr_5 := blk_frozen BKdr.out 5
  have hcdr_6 : w.cell? ⟨dr, 6, none⟩ = some (.slice Ag gone.length cg) := (blk_cell BKdr.out 6).trans rfl
  have hfdr_6 := blk_frozen BKdr.out 6
  go_enter Try.func25, Try.ntmps25
  have tok1 : True := trivial
  go_wp2_with (first | (have _ := tok1; go_at_call 45; (with_reducible refine (made_yes D dr _ _ _ _ (by (with_reducible repeat (first | refine blk_drewN ?_ _ | refine blk_drew ?_ | refine blk_alloc ?_ _)); exact BKD.out)).mono ?_); rintro e w1 ⟨rfl, hd⟩; have hb := hd.below; (try clear hcD_0 hfD_0); (try clear hcD_1 hfD_1); (try clear hcD_2 hfD_2); (try clear hcD_3 hfD_3); (try clear hcdr_0 hfdr_0); (try clear hcdr_1 hfdr_1); (try clear hcdr_2 hfdr_2); (try clear hcdr_3 hfdr_3); (try clear hcdr_4 hfdr_4); (try clear hcdr_5 hfdr_5); (try clear hcdr_6 hfdr_6); have hs : Below w.heap.size w w1 := below_step (by repeat (first | exact Below.refl _ _ | apply below_alloc | apply pw_below_drewN | apply below_drew1)) hb; have SZ1 := Aside0.mk (show w.heap.size ≤ w1.heap.size from hs.size); replace BKD := Aside0.mk (blk_below BKD.out hs); replace BKdr := Aside0.mk (blk_below BKdr.out hs); replace HB := Aside0.mk (below_step HB.out hs); clear hb hd hs; have hcD_0 : w1.cell? ⟨D, 0, none⟩ = some (.pointer (some ⟨dr, 0, none⟩)) := (blk_cell BKD.out 0).trans rfl; have hfD_0 := blk_frozen BKD.out 0; have hcD_1 : w1.cell? ⟨D, 1, none⟩ = some (.bool off) := (blk_cell BKD.out 1).trans rfl; have hfD_1 := blk_frozen BKD.out 1; have hcD_2 : w1.cell? ⟨D, 2, none⟩ = some (.int .i64 cut) := (blk_cell BKD.out 2).trans rfl; have hfD_2 := blk_frozen BKD.out 2; have hcD_3 : w1.cell? ⟨D, 3, none⟩ = some (.int .i64 wr) := (blk_cell BKD.out 3).trans rfl; have hfD_3 := blk_frozen BKD.out 3; have hcdr_0 : w1.cell? ⟨dr, 0, none⟩ = some (.int .i64 a) := (blk_cell BKdr.out 0).trans rfl; have hfdr_0 := blk_frozen BKdr.out 0; have hcdr_1 : w1.cell? ⟨dr, 1, none⟩ = some (.int .i64 b) := (blk_cell BKdr.out 1).trans rfl; have hfdr_1 := blk_frozen BKdr.out 1; have hcdr_2 : w1.cell? ⟨dr, 2, none⟩ = some (.int .i64 c) := (blk_cell BKdr.out 2).trans rfl; have hfdr_2 := blk_frozen BKdr.out 2; have hcdr_3 : w1.cell? ⟨dr, 3, none⟩ = some (.int .i64 d) := (blk_cell BKdr.out 3).trans rfl; have hfdr_3 := blk_frozen BKdr.out 3; have hcdr_4 : w1.cell? ⟨dr, 4, none⟩ = some (.int .i64 sz) := (blk_cell BKdr.out 4).trans rfl; have hfdr_4 := blk_frozen BKdr.out 4; have hcdr_5 : w1.cell? ⟨dr, 5, none⟩ = some (.slice As ns cs) := (blk_cell BKdr.out 5).trans rfl; have hfdr_5 := blk_frozen BKdr.out 5; have hcdr_6 : w1.cell? ⟨dr, 6, none⟩ = some (.slice Ag gone.length cg) := (blk_cell BKdr.out 6).trans rfl; have hfdr_6 := blk_frozen BKdr.out 6; clear tok1))
  go_loopg [3, 16] gone.length (fun kq v3 v16 wr => ∃ k : Nat, v16 = .int .i64 (k : Int) ∧ Aside0 (k ≤ gone.length ∧ gone.length - k ≤ kq) ∧ Aside0 (Kd.R (Kd.int .i64) 3 wr w.heap.size (fun _ => True) v3 (wipedOf k gone)) ∧ Aside0 (Below w.heap.size w wr))
  case atStart => exact ⟨0, rfl, Aside0.mk ⟨by omega, by omega⟩, Aside0.mk (Kd.R_nil _ _ _ _ _), HB⟩
  case round =>
    clear HB
    obtain ⟨k, rfl, AX, HO, HB⟩ := hrel
    by_cases hlt : k < gone.length
    · obtain ⟨ad, eA, hx0⟩ := Kd.at_bool HG.out (k : Int) (by omega) (by omega)
      subst eA
      rw [rdOf, Int.toNat_natCast] at hx0
      have b1 : decide ((k : Int) < (gone.length : Int)) = true := decide_eq_true (by omega)
      have b2 : decide (k < gone.length) = true := decide_eq_true hlt
      have b3 : (k < gone.length) = True := eq_true hlt
      have hx := pw_cell_below HB.out hx0
      have HK := Aside0.mk hlt
      clear hlt hx0
      have AL := Aside0.mk (wipedOf_len k gone)
      by_cases hg : gone.getD k false = true
      · rw [hg] at hx
        have AJ := Aside0.mk (wipedOf_yes hg)
        clear hg
        go_wp2_with ((with_reducible refine gate_builtin (b := .append) (xs := #[.tmp 22, .tmp 24]) rfl ?_); at_builtin; refine Kd.R_append (Kd.int .i64) (w0 := w) w.heap.size rfl (.tmp 22) (.tmp 24) 54 3 (.int .i64 0) 8 rfl Try.underlying54 infoI64 rfl (by decide) (by omega) _ (wipedOf k gone) (k : Int) [.int .i64 (k : Int)] (fun _ => True) (fun _ => False) rfl rfl rfl (fun _ hk => hk.elim) (fun _ _ => trivial) HO.out HB.out HB.out.size (by have := AL.out; have := HK.out; have := HL.out; omega) ?_; intro v9 w9 ho hb hg hat; rw [← AJ.out] at ho; clear HB HO; have HB := Aside0.mk hb; have HO := Aside0.mk ho; clear hb ho hg hat)
        go_roundg (gk - 1)
        case measure =>
          have := AX.out
          have := HK.out
          omega
        case rel =>
          have h1 := AX.out
          have h2 := HK.out
          have h3 := HL.out
          exact ⟨k + 1, by rw [show wrap64 ((k : Int) + 1) = ((k + 1 : Nat) : Int) by unfold wrap64; omega], Aside0.mk ⟨by omega, by omega⟩, HO, HB⟩
      · have hg : gone.getD k false = false := by simpa using hg
        rw [hg] at hx
        have AJ := Aside0.mk (wipedOf_no hg)
        clear hg
        go_wp2
        go_roundg (gk - 1)
        case measure =>
          have := AX.out
          have := HK.out
          omega
        case rel =>
          have h1 := AX.out
          have h2 := HK.out
          have h3 := HL.out
          exact ⟨k + 1, by rw [show wrap64 ((k : Int) + 1) = ((k + 1 : Nat) : Int) by unfold wrap64; omega], Aside0.mk ⟨by omega, by omega⟩, Aside0.mk (by rw [AJ.out]; exact HO.out), HB⟩
    · have b1 : decide ((k : Int) < (gone.length : Int)) = false := decide_eq_false (by omega)
      have b2 : decide (k < gone.length) = false := decide_eq_false hlt
      have e : k = gone.length := by
        have := AX.out
        omega
      clear hlt
      go_wp2
      go_ret
      refine ⟨_, rfl, ?_, HB.out⟩
      have := HO.out
      rwa [e] at this
end Go.Proofs.Ytemmhgfjfbdggaa.P

import Derived.Test.YtcnmocbiekfpbaaPx0
import Derived.Test.YtcnmocbiekfpbaaPx24
import Derived.Test.YtcnmocbiekfpbaaWApart
import Derived.Test.YtcnmocbiekfpbaaWKept
namespace Go.Proofs.Ytcnmocbiekfpbaa.P
open Go.RowKit Go.Proofs.YtcnmocbiekfpbaaW.PrintWords Go.Proofs.YtcnmocbiekfpbaaW.PrintLast Go.Proofs.YtcnmocbiekfpbaaW.PrintMore
attribute [local go_sem] max2_int min2_int max_two min_two max_three min_three max_four min_four
set_option linter.unusedVariables false
set_option linter.unusedSimpArgs false
/-- A row of rows whose inner rows are apart, laid open: each element's row, with blocks of its own. -/
theorem S_split {α : Type} {d : Kd α} {e e' base g n cap : Nat} {ok : Nat → Prop} {W : World} {xs : List (List α)} (h : (Kd.slice e' d).S e W base ok (.slice (some ⟨g, 0, none⟩) n cap) xs) :
    ∃ (okj : Nat → Nat → Prop) (vs : Nat → Value), (∀ j, j < n → W.cell? ⟨g, j, none⟩ = some (vs j)) ∧ (∀ j, j < n → d.R e' W base (okj j) (vs j) (xs.getD j [])) ∧ (∀ j k, okj j k → ok k ∧ k ≠ g ∧ k < W.heap.size) ∧ (∀ i j k, okj i k → okj j k → i = j) := by
  have hn := (Kd.S_reads' h).1
  obtain ⟨f, hR⟩ := Kd.S_bound h
  have key : ∀ j, j < n → ∃ v, W.cell? ⟨g, j, none⟩ = some v ∧ d.R e' W base (fun k => ((ok k ∧ base ≤ k ∧ k < W.heap.size ∧ ∃ q, q ∈ e :: (Kd.slice e' d).E ∧ ∃ cells, W.heap[k]? = some (.cells cells q (0, 0))) ∧ some k ≠ (Value.slice (some ⟨g, 0, none⟩) n cap).ownBlock) ∧ f k = j) v (xs.getD j []) := by
    intro j hj
    obtain ⟨c, hcl, hM, hcc⟩ := Kd.R_getA hR (([] : List α), j) (j : Int) (by omega) (by omega)
    have e1 : xs.zipIdx.getD ((j : Int).toNat) (([] : List α), j) = (xs.getD j [], j) := by
      rw [Int.toNat_natCast, List.getD_eq_getElem?_getD, List.getElem?_zipIdx, List.getD_eq_getElem?_getD]
      cases xs[j]? <;> simp
    rw [e1] at hM
    obtain ⟨v, rfl, hv⟩ := hM
    refine ⟨v, ?_, hv⟩
    have := hcc 0 v rfl
    rw [show (j : Int).toNat * (Kd.tag f (Kd.slice e' d)).sz + 0 = j from by show (j : Int).toNat * 1 + 0 = j; omega] at this
    have e2 : (⟨g, 0, none⟩ : Addr).add j = ⟨g, j, none⟩ := by
      unfold Addr.add
      by_cases hj0 : j = 0
      · subst hj0; simp
      · rw [if_neg hj0]; simp
    rwa [e2] at this
  refine ⟨fun j k => ((ok k ∧ base ≤ k ∧ k < W.heap.size ∧ ∃ q, q ∈ e :: (Kd.slice e' d).E ∧ ∃ cells, W.heap[k]? = some (.cells cells q (0, 0))) ∧ some k ≠ (Value.slice (some ⟨g, 0, none⟩) n cap).ownBlock) ∧ f k = j, fun j => (W.cell? ⟨g, j, none⟩).getD (.slice none 0 0), fun j hj => ?_, fun j hj => ?_, fun j k hk => ⟨hk.1.1.1, fun e => hk.1.2 (by rw [e]; rfl), hk.1.1.2.2.1⟩, fun i j k h1 h2 => h1.2.symm.trans h2.2⟩
  · obtain ⟨v, hv, _⟩ := key j hj
    show _ = some ((W.cell? ⟨g, j, none⟩).getD (.slice none 0 0))
    rw [hv]
    rfl
  · obtain ⟨v, hv, hR2⟩ := key j hj
    have e3 : (W.cell? ⟨g, j, none⟩).getD (.slice none 0 0) = v := by rw [hv]; rfl
    show d.R e' W base _ ((W.cell? ⟨g, j, none⟩).getD (.slice none 0 0)) _
    rw [e3]
    exact hR2
set_option maxHeartbeats 8000000 in
set_option maxRecDepth 100000 in
theorem spoil_nil (a b c d : Int) (cap : Nat) (ok : Nat → Prop) (w0 w : World) (hB : Below w0.heap.size w0 w) : Calls Try.prog 28 #[.agg #[.int .i64 a, .int .i64 b, .int .i64 c, .int .i64 d, .slice none 0 cap]] w fun e w' => e = .returned (.tuple #[]) ∧ Below w0.heap.size w0 w' ∧ Kept w w' ok := by
  have hu27 := Try.underlying27
  have hu24 := Try.underlying24
  have HB := Aside0.mk hB
  have HK := Aside0.mk (Kept.refl w ok)
  clear hB
  go_enter Try.func28, Try.ntmps28
  have tok1 : True := trivial
  go_wp2_with (first | (have _ := tok1; (with_reducible refine gate_dst (N := 1) rfl ?_); refine box_event ?hg (N := 1) ?hd (cs := #[.int .i64 a, .int .i64 b, .int .i64 c, .int .i64 d, .slice none 0 cap]) (t := 27) ?hr ?_; (case hd => rfl); (case hg => rfl); (case hr => first | (go_simp; done) | (go_simp; rfl)); intro g1 hg w1 hbox hb; have hs : Below w.heap.size w w1 := below_step (by repeat (first | exact Below.refl _ _ | apply below_alloc | apply pw_below_drewN | apply below_drew1)) hb; have SZ1 := Aside0.mk (show w.heap.size ≤ g1 ∧ g1 < w1.heap.size from ⟨by rw [hg]; exact (below_size (by repeat (first | exact Below.refl _ _ | apply below_alloc | apply pw_below_drewN | apply below_drew1))), blk_lt hbox⟩); replace HB := Aside0.mk (below_step HB.out hs); have BKg1 := Aside0.mk hbox; have hb0 := Aside0.mk hs; clear hb hbox hg hs; have hcg1_0 : w1.cell? ⟨g1, 0, none⟩ = some (.int .i64 a) := (blk_cell BKg1.out 0).trans rfl; have hfg1_0 := blk_frozen BKg1.out 0; have hcg1_1 : w1.cell? ⟨g1, 1, none⟩ = some (.int .i64 b) := (blk_cell BKg1.out 1).trans rfl; have hfg1_1 := blk_frozen BKg1.out 1; have hcg1_2 : w1.cell? ⟨g1, 2, none⟩ = some (.int .i64 c) := (blk_cell BKg1.out 2).trans rfl; have hfg1_2 := blk_frozen BKg1.out 2; have hcg1_3 : w1.cell? ⟨g1, 3, none⟩ = some (.int .i64 d) := (blk_cell BKg1.out 3).trans rfl; have hfg1_3 := blk_frozen BKg1.out 3; have hcg1_4 : w1.cell? ⟨g1, 4, none⟩ = some (.slice none 0 cap) := (blk_cell BKg1.out 4).trans rfl; have hfg1_4 := blk_frozen BKg1.out 4; clear tok1))
  go_loopg [2] 0 (fun kq v2 wr => v2 = .int .i64 0 ∧ Aside0 (wr.heap[g1]? = some (.cells #[.int .i64 a, .int .i64 b, .int .i64 c, .int .i64 d, .slice none 0 cap] 27 (0, 0))) ∧ Aside0 (Below w0.heap.size w0 wr) ∧ Aside0 (Kept w wr ok))
  case atStart => exact ⟨rfl, Aside0.mk (by (with_reducible repeat (first | refine blk_drewN ?_ _ | refine blk_drew ?_ | refine blk_alloc ?_ _)); exact BKg1.out), Aside0.mk (by repeat (first | exact HB.out | apply below_alloc | apply pw_below_drewN | apply below_drew1)), Aside0.mk (Kept.of_below hb0.out _)⟩
  case round =>
    clear BKg1 HB HK hb0
    obtain ⟨rfl, BKg1, HB, HK⟩ := hrel
    have hcg1_4 : wr.cell? ⟨g1, 4, none⟩ = some (.slice none 0 cap) := (blk_cell BKg1.out 4).trans rfl
    have hfg1_4 := blk_frozen BKg1.out 4
    go_wp2
    first | go_end0 | ((try simp only [Exit.inBlock, Exit.then]); refine bodyPost_ret (results_none rfl _ _ _) rfl ?_)
    exact ⟨rfl, HB.out, HK.out⟩
set_option maxHeartbeats 8000000 in
set_option maxRecDepth 100000 in
theorem spoil_rows (a b c d : Int) (g n cap : Nat) (sl : List (List Int)) (ok : Nat → Prop) (kx : Nat) (w0 w : World) (hB : Below w0.heap.size w0 w) (hS : Kd.S (Kd.slice 5 (Kd.int .u8)) 33 w w0.heap.size ok (.slice (some ⟨g, 0, none⟩) n cap) sl) (hsc : ∀ x ∈ sl, twoslotlaw09_scratch.f kx x = some ()) (hn : n ≤ 1000000) : Calls Try.prog 28 #[.agg #[.int .i64 a, .int .i64 b, .int .i64 c, .int .i64 d, .slice (some ⟨g, 0, none⟩) n cap]] w fun e w' => e = .returned (.tuple #[]) ∧ Below w0.heap.size w0 w' ∧ Kept w w' ok := by
  have hu27 := Try.underlying27
  have hu24 := Try.underlying24
  have HB := Aside0.mk hB
  obtain ⟨okj, vs, hcell, hrow, hokj, hdis⟩ := S_split hS
  have hlen : n = sl.length := (Kd.S_reads' hS).1
  have HSC := Aside0.mk hsc
  have HOK := Aside0.mk hokj
  have HDI := Aside0.mk hdis
  have HLN := Aside0.mk hlen
  have HNN := Aside0.mk hn
  have HC := Aside0.mk hcell
  have HR := Aside0.mk hrow
  clear hS hsc hokj hdis hlen hn hcell hrow
  clear hB
  go_enter Try.func28, Try.ntmps28
  have tok1 : True := trivial
  go_wp2_with (first | (have _ := tok1; (with_reducible refine gate_dst (N := 1) rfl ?_); refine box_event ?hg (N := 1) ?hd (cs := #[.int .i64 a, .int .i64 b, .int .i64 c, .int .i64 d, .slice (some ⟨g, 0, none⟩) n cap]) (t := 27) ?hr ?_; (case hd => rfl); (case hg => rfl); (case hr => first | (go_simp; done) | (go_simp; rfl)); intro g1 hg w1 hbox hb; have hs : Below w.heap.size w w1 := below_step (by repeat (first | exact Below.refl _ _ | apply below_alloc | apply pw_below_drewN | apply below_drew1)) hb; have SZ1 := Aside0.mk (show w.heap.size ≤ g1 ∧ g1 < w1.heap.size from ⟨by rw [hg]; exact (below_size (by repeat (first | exact Below.refl _ _ | apply below_alloc | apply pw_below_drewN | apply below_drew1))), blk_lt hbox⟩); replace HB := Aside0.mk (below_step HB.out hs); have BKg1 := Aside0.mk hbox; have hb0 := Aside0.mk hs; clear hb hbox hg hs; have hcg1_0 : w1.cell? ⟨g1, 0, none⟩ = some (.int .i64 a) := (blk_cell BKg1.out 0).trans rfl; have hfg1_0 := blk_frozen BKg1.out 0; have hcg1_1 : w1.cell? ⟨g1, 1, none⟩ = some (.int .i64 b) := (blk_cell BKg1.out 1).trans rfl; have hfg1_1 := blk_frozen BKg1.out 1; have hcg1_2 : w1.cell? ⟨g1, 2, none⟩ = some (.int .i64 c) := (blk_cell BKg1.out 2).trans rfl; have hfg1_2 := blk_frozen BKg1.out 2; have hcg1_3 : w1.cell? ⟨g1, 3, none⟩ = some (.int .i64 d) := (blk_cell BKg1.out 3).trans rfl; have hfg1_3 := blk_frozen BKg1.out 3; have hcg1_4 : w1.cell? ⟨g1, 4, none⟩ = some (.slice (some ⟨g, 0, none⟩) n cap) := (blk_cell BKg1.out 4).trans rfl; have hfg1_4 := blk_frozen BKg1.out 4; clear tok1))
  have HG1 := Aside0.mk (show w.heap.size ≤ g1 from (SZ1.out).1)
  go_loopg [2] n (fun kq v2 wr => ∃ k : Nat, v2 = .int .i64 (k : Int) ∧ Aside0 (k ≤ n ∧ n - k ≤ kq) ∧ Aside0 (wr.heap[g1]? = some (.cells #[.int .i64 a, .int .i64 b, .int .i64 c, .int .i64 d, .slice (some ⟨g, 0, none⟩) n cap] 27 (0, 0))) ∧ Aside0 (∀ j, j < n → wr.cell? ⟨g, j, none⟩ = some (vs j)) ∧ Aside0 (∀ j, k ≤ j → j < n → Kd.R (Kd.int .u8) 5 wr w0.heap.size (okj j) (vs j) (sl.getD j [])) ∧ Aside0 (Below w0.heap.size w0 wr) ∧ Aside0 (Kept w wr ok))
  case atStart => exact ⟨0, rfl, Aside0.mk ⟨by omega, by omega⟩, Aside0.mk (by (with_reducible repeat (first | refine blk_drewN ?_ _ | refine blk_drew ?_ | refine blk_alloc ?_ _)); exact BKg1.out), Aside0.mk (fun j hj => pw_cell_below hb0.out (HC.out j hj)), Aside0.mk (fun j _ hj => Kd.R_below (HR.out j hj) hb0.out), Aside0.mk (by repeat (first | exact HB.out | apply below_alloc | apply pw_below_drewN | apply below_drew1)), Aside0.mk (Kept.of_below hb0.out _)⟩
  case round =>
    clear BKg1 HB HC HR hb0
    obtain ⟨k, rfl, AX, BKg1, HC, HR, HB, HK⟩ := hrel
    by_cases hlt : k < n
    · have hck := HC.out k hlt
      have HRk := Aside0.mk (HR.out k (Nat.le_refl _) hlt)
      have hmem : sl.getD k [] ∈ sl := by
        have h1 := HLN.out
        rw [List.getD_eq_getElem?_getD, List.getElem?_eq_getElem (by omega)]
        exact List.getElem_mem (by omega)
      have HSk := Aside0.mk (HSC.out _ hmem)
      have HLT := Aside0.mk hlt
      have b1 : decide ((k : Int) < (n : Int)) = true := decide_eq_true (by omega)
      have b2 : decide (k < n) = true := decide_eq_true hlt
      have b3 : (k < n) = True := eq_true hlt
      clear hlt hmem
      have hcg1_4 : wr.cell? ⟨g1, 4, none⟩ = some (.slice (some ⟨g, 0, none⟩) n cap) := (blk_cell BKg1.out 4).trans rfl
      have hfg1_4 := blk_frozen BKg1.out 4
      go_wp2_with (go_at_call 35; (with_reducible refine (twoslotlaw09_scratch.calls kx (okj k) (vs k) (sl.getD k []) w0 _ HB.out HRk.out HSk.out).mono ?_); rintro e w2 ⟨rfl, hb, hk⟩; have HB2 := Aside0.mk hb; have HK2 := Aside0.mk hk; clear hb hk)
      have hax := AX.out
      have hlk := HLT.out
      have hnn := HNN.out
      go_roundg (gk - 1)
      case measure => omega
      case rel =>
        refine ⟨k + 1, by rw [show wrap64 ((k : Int) + 1) = ((k + 1 : Nat) : Int) by unfold wrap64; omega], Aside0.mk ⟨by omega, by omega⟩, Aside0.mk (blk_kept BKg1.out HK2.out (fun h => by have := (HOK.out k _ h).2.2; have := HG1.out; omega)), Aside0.mk (fun j hj => cell_kept (HC.out j hj) HK2.out (fun h => (HOK.out k _ h).2.1 rfl)), Aside0.mk (fun j hj hjn => Kd.R_step (HR.out j (by omega) hjn) (fun q hq hql => HK2.out.2 q hql (fun h => by have := HDI.out k j q h hq; omega))), HB2, Aside0.mk (HK.out.then_ HK2.out (fun q hq => .inl (HOK.out k q hq).1))⟩
    · have b1 : decide ((k : Int) < (n : Int)) = false := decide_eq_false (by omega)
      have b2 : decide (k < n) = false := decide_eq_false hlt
      have b3 : (k < n) = False := eq_false hlt
      have hcg1_4 : wr.cell? ⟨g1, 4, none⟩ = some (.slice (some ⟨g, 0, none⟩) n cap) := (blk_cell BKg1.out 4).trans rfl
      have hfg1_4 := blk_frozen BKg1.out 4
      go_wp2
      first | go_end0 | ((try simp only [Exit.inBlock, Exit.then]); refine bodyPost_ret (results_none rfl _ _ _) rfl ?_)
      exact ⟨rfl, HB.out, HK.out⟩
theorem spoil_calls (a b c d : Int) (v : Value) (sl : List (List Int)) (ok : Nat → Prop) (kx : Nat) (w0 w : World) (hB : Below w0.heap.size w0 w) (hS : Kd.S (Kd.slice 5 (Kd.int .u8)) 33 w w0.heap.size ok v sl) (hsc : ∀ x ∈ sl, twoslotlaw09_scratch.f kx x = some ()) (hn : sl.length ≤ 1000000) :
    Calls Try.prog 28 #[.agg #[.int .i64 a, .int .i64 b, .int .i64 c, .int .i64 d, v]] w fun e w' => e = .returned (.tuple #[]) ∧ Below w0.heap.size w0 w' ∧ Kept w w' ok := by
  cases sl with
  | nil =>
    obtain ⟨inner, ho⟩ := Kd.S_own hS
    rcases ho.2 with ⟨rfl, _⟩ | ⟨g, cap, cur, rfl, _⟩
    · exact spoil_nil a b c d 0 ok w0 w hB
    · exact spoil_rows a b c d g 0 cap [] ok kx w0 w hB hS hsc (by omega)
  | cons x sl =>
    obtain ⟨g, cap, rfl, _⟩ := Kd.S_form hS (by simp)
    exact spoil_rows a b c d g _ cap (x :: sl) ok kx w0 w hB hS hsc hn
end Go.Proofs.Ytcnmocbiekfpbaa.P

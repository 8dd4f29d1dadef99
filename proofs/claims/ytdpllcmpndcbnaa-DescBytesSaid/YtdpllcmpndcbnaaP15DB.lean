import Derived.Test.YtdpllcmpndcbnaaP15K
import Derived.Test.YtdpllcmpndcbnaaP15Ev6
import Derived.Test.YtdpllcmpndcbnaaPx12
import Derived.Test.YtdpllcmpndcbnaaP0Steps
namespace Go.Proofs.Ytdpllcmpndcbnaa.P
open Go.RowKit Go.Proofs.YtdpllcmpndcbnaaW.PrintWords Go.Proofs.YtdpllcmpndcbnaaW.PrintLast Go.Proofs.YtdpllcmpndcbnaaW.PrintMore
attribute [local go_sem] max2_int min2_int max_two min_two max_three min_three max_four min_four
set_option linter.unusedVariables false
set_option linter.unusedSimpArgs false
set_option maxHeartbeats 8000000 in
set_option maxRecDepth 100000 in
theorem DescBytes.long1 (a b c d e0 e1 : Int) (Ae : Option Addr) (ce : Nat) (le : List S27) (Al : Option Addr) (cl : Nat) (l : List S27) (w : World) (hCe : Kd.C k27 w Ae le.length le) (hle : le.length ≤ ce) (hCl : Kd.C k27 w Al l.length l) (hll : l.length ≤ cl) (h5 : 500 < le.length) :
    Calls Try.prog 4 #[.agg #[.int .i64 a, .int .i64 b, .int .i64 c, .int .i64 d], .agg #[.int .i64 e0, .int .i64 e1, .slice Ae le.length ce], .slice Al l.length cl] w fun e w' => e = .returned (.bool true) ∧ Below w.heap.size w w' := by
  have hu24 := Try.underlying24
  have hu35 := Try.underlying35
  have HB := Aside0.mk (Below.refl w.heap.size w)
  have HA := Aside0.mk (alive_ev 80000 (by omega))
  have b1 : decide ((500 : Int) < (le.length : Int)) = true := decide_eq_true (by omega)
  have b2 : decide (500 < le.length) = true := decide_eq_true h5
  clear h5 hCe hle hCl hll
  go_enter Try.func4, Try.ntmps4
  have tok1 : True := trivial
  go_wp2_with (first | (have _ := tok1; (with_reducible refine gate_dst (N := 3) rfl ?_); refine box_event ?hg (N := 3) ?hd (cs := #[.int .i64 a, .int .i64 b, .int .i64 c, .int .i64 d]) (t := 24) ?hr ?_; (case hd => rfl); (case hg => rfl); (case hr => first | (go_simp; done) | (go_simp; rfl)); intro g3 hg w1 hbox hb; have hs : Below w.heap.size w w1 := below_step (by repeat (first | exact Below.refl _ _ | apply below_alloc | apply pw_below_drewN | apply below_drew1)) hb; have SZ1 := Aside0.mk (show w.heap.size ≤ g3 ∧ g3 < w1.heap.size from ⟨by rw [hg]; exact (below_size (by repeat (first | exact Below.refl _ _ | apply below_alloc | apply pw_below_drewN | apply below_drew1))), blk_lt hbox⟩); have n_ := Aside0.mk (below_step HB.out hs); clear HB; have HB := n_; clear n_; have BKg3 := Aside0.mk hbox; clear hb hbox hg hs; have hcg3_0 : w1.cell? ⟨g3, 0, none⟩ = some (.int .i64 a) := (blk_cell BKg3.out 0).trans rfl; have hfg3_0 := blk_frozen BKg3.out 0; have hcg3_1 : w1.cell? ⟨g3, 1, none⟩ = some (.int .i64 b) := (blk_cell BKg3.out 1).trans rfl; have hfg3_1 := blk_frozen BKg3.out 1; have hcg3_2 : w1.cell? ⟨g3, 2, none⟩ = some (.int .i64 c) := (blk_cell BKg3.out 2).trans rfl; have hfg3_2 := blk_frozen BKg3.out 2; have hcg3_3 : w1.cell? ⟨g3, 3, none⟩ = some (.int .i64 d) := (blk_cell BKg3.out 3).trans rfl; have hfg3_3 := blk_frozen BKg3.out 3; clear tok1; have tok2 : True := trivial) | (have _ := tok2; (with_reducible refine gate_dst (N := 4) rfl ?_); refine box_event ?hg (N := 4) ?hd (cs := #[.int .i64 e0, .int .i64 e1, .slice Ae le.length ce]) (t := 35) ?hr ?_; (case hd => rfl); (case hg => rfl); (case hr => first | (go_simp; done) | (go_simp; rfl)); intro g4 hg w2 hbox hb; have hs : Below w1.heap.size w1 w2 := below_step (by repeat (first | exact Below.refl _ _ | apply below_alloc | apply pw_below_drewN | apply below_drew1)) hb; have SZ2 := Aside0.mk (show w1.heap.size ≤ g4 ∧ g4 < w2.heap.size from ⟨by rw [hg]; exact (below_size (by repeat (first | exact Below.refl _ _ | apply below_alloc | apply pw_below_drewN | apply below_drew1))), blk_lt hbox⟩); (try clear hcg3_0 hfg3_0); (try clear hcg3_1 hfg3_1); (try clear hcg3_2 hfg3_2); (try clear hcg3_3 hfg3_3); have n_ := Aside0.mk (blk_below BKg3.out hs); clear BKg3; have BKg3 := n_; clear n_; have n_ := Aside0.mk (below_step HB.out hs); clear HB; have HB := n_; clear n_; have hneg3_g4 : g3 ≠ g4 := (by have := SZ2.out; have := SZ1.out; omega); have hneg4_g3 : g4 ≠ g3 := hneg3_g4.symm; have BKg4 := Aside0.mk hbox; clear hb hbox hg hs; have hcg3_0 : w2.cell? ⟨g3, 0, none⟩ = some (.int .i64 a) := (blk_cell BKg3.out 0).trans rfl; have hfg3_0 := blk_frozen BKg3.out 0; have hcg3_1 : w2.cell? ⟨g3, 1, none⟩ = some (.int .i64 b) := (blk_cell BKg3.out 1).trans rfl; have hfg3_1 := blk_frozen BKg3.out 1; have hcg3_2 : w2.cell? ⟨g3, 2, none⟩ = some (.int .i64 c) := (blk_cell BKg3.out 2).trans rfl; have hfg3_2 := blk_frozen BKg3.out 2; have hcg3_3 : w2.cell? ⟨g3, 3, none⟩ = some (.int .i64 d) := (blk_cell BKg3.out 3).trans rfl; have hfg3_3 := blk_frozen BKg3.out 3; have hcg4_0 : w2.cell? ⟨g4, 0, none⟩ = some (.int .i64 e0) := (blk_cell BKg4.out 0).trans rfl; have hfg4_0 := blk_frozen BKg4.out 0; have hcg4_1 : w2.cell? ⟨g4, 1, none⟩ = some (.int .i64 e1) := (blk_cell BKg4.out 1).trans rfl; have hfg4_1 := blk_frozen BKg4.out 1; have hcg4_2 : w2.cell? ⟨g4, 2, none⟩ = some (.slice Ae le.length ce) := (blk_cell BKg4.out 2).trans rfl; have hfg4_2 := blk_frozen BKg4.out 2; clear tok2; have tok3 : True := trivial) | (have _ := tok3; go_at_call 9; (with_reducible refine (twoslotlaw15_alive.calls 80000 true _ HA.out).mono ?_); rintro e w3 ⟨rfl, hb⟩; (try clear hcg3_0 hfg3_0); (try clear hcg3_1 hfg3_1); (try clear hcg3_2 hfg3_2); (try clear hcg3_3 hfg3_3); (try clear hcg4_0 hfg4_0); (try clear hcg4_1 hfg4_1); (try clear hcg4_2 hfg4_2); have hs : Below w2.heap.size w2 w3 := below_step (by repeat (first | exact Below.refl _ _ | apply below_alloc | apply pw_below_drewN | apply below_drew1)) hb; have hl : w2.heap.size ≤ _ := below_size (w := w2) (by repeat (first | exact Below.refl _ _ | apply below_alloc | apply pw_below_drewN | apply below_drew1)); have SZ3 := Aside0.mk (show w2.heap.size ≤ w3.heap.size from hs.size); have n_ := Aside0.mk (blk_below BKg3.out hs); clear BKg3; have BKg3 := n_; clear n_; have n_ := Aside0.mk (blk_below BKg4.out hs); clear BKg4; have BKg4 := n_; clear n_; have n_ := Aside0.mk (below_step HB.out hs); clear HB; have HB := n_; clear n_; clear hb hs; (try clear hl); have hcg3_0 : w3.cell? ⟨g3, 0, none⟩ = some (.int .i64 a) := (blk_cell BKg3.out 0).trans rfl; have hfg3_0 := blk_frozen BKg3.out 0; have hcg3_1 : w3.cell? ⟨g3, 1, none⟩ = some (.int .i64 b) := (blk_cell BKg3.out 1).trans rfl; have hfg3_1 := blk_frozen BKg3.out 1; have hcg3_2 : w3.cell? ⟨g3, 2, none⟩ = some (.int .i64 c) := (blk_cell BKg3.out 2).trans rfl; have hfg3_2 := blk_frozen BKg3.out 2; have hcg3_3 : w3.cell? ⟨g3, 3, none⟩ = some (.int .i64 d) := (blk_cell BKg3.out 3).trans rfl; have hfg3_3 := blk_frozen BKg3.out 3; have hcg4_0 : w3.cell? ⟨g4, 0, none⟩ = some (.int .i64 e0) := (blk_cell BKg4.out 0).trans rfl; have hfg4_0 := blk_frozen BKg4.out 0; have hcg4_1 : w3.cell? ⟨g4, 1, none⟩ = some (.int .i64 e1) := (blk_cell BKg4.out 1).trans rfl; have hfg4_1 := blk_frozen BKg4.out 1; have hcg4_2 : w3.cell? ⟨g4, 2, none⟩ = some (.slice Ae le.length ce) := (blk_cell BKg4.out 2).trans rfl; have hfg4_2 := blk_frozen BKg4.out 2; clear tok3))
  go_wp2
  go_ret
  exact ⟨rfl, HB.out⟩
set_option maxHeartbeats 8000000 in
set_option maxRecDepth 100000 in
theorem DescBytes.long2 (a b c d e0 e1 : Int) (Ae : Option Addr) (ce : Nat) (le : List S27) (Al : Option Addr) (cl : Nat) (l : List S27) (w : World) (hCe : Kd.C k27 w Ae le.length le) (hle : le.length ≤ ce) (hCl : Kd.C k27 w Al l.length l) (hll : l.length ≤ cl) (h5 : ¬ 500 < le.length) (h6 : 500 < l.length) :
    Calls Try.prog 4 #[.agg #[.int .i64 a, .int .i64 b, .int .i64 c, .int .i64 d], .agg #[.int .i64 e0, .int .i64 e1, .slice Ae le.length ce], .slice Al l.length cl] w fun e w' => e = .returned (.bool true) ∧ Below w.heap.size w w' := by
  have hu24 := Try.underlying24
  have hu35 := Try.underlying35
  have HB := Aside0.mk (Below.refl w.heap.size w)
  have HA := Aside0.mk (alive_ev 80000 (by omega))
  have b1 : decide ((500 : Int) < (le.length : Int)) = false := decide_eq_false (by omega)
  have b2 : decide (500 < le.length) = false := decide_eq_false h5
  have b3 : decide ((500 : Int) < (l.length : Int)) = true := decide_eq_true (by omega)
  have b4 : decide (500 < l.length) = true := decide_eq_true h6
  clear h5 h6 hCe hle hCl hll
  go_enter Try.func4, Try.ntmps4
  have tok1 : True := trivial
  go_wp2_with (first | (have _ := tok1; (with_reducible refine gate_dst (N := 3) rfl ?_); refine box_event ?hg (N := 3) ?hd (cs := #[.int .i64 a, .int .i64 b, .int .i64 c, .int .i64 d]) (t := 24) ?hr ?_; (case hd => rfl); (case hg => rfl); (case hr => first | (go_simp; done) | (go_simp; rfl)); intro g3 hg w1 hbox hb; have hs : Below w.heap.size w w1 := below_step (by repeat (first | exact Below.refl _ _ | apply below_alloc | apply pw_below_drewN | apply below_drew1)) hb; have SZ1 := Aside0.mk (show w.heap.size ≤ g3 ∧ g3 < w1.heap.size from ⟨by rw [hg]; exact (below_size (by repeat (first | exact Below.refl _ _ | apply below_alloc | apply pw_below_drewN | apply below_drew1))), blk_lt hbox⟩); have n_ := Aside0.mk (below_step HB.out hs); clear HB; have HB := n_; clear n_; have BKg3 := Aside0.mk hbox; clear hb hbox hg hs; have hcg3_0 : w1.cell? ⟨g3, 0, none⟩ = some (.int .i64 a) := (blk_cell BKg3.out 0).trans rfl; have hfg3_0 := blk_frozen BKg3.out 0; have hcg3_1 : w1.cell? ⟨g3, 1, none⟩ = some (.int .i64 b) := (blk_cell BKg3.out 1).trans rfl; have hfg3_1 := blk_frozen BKg3.out 1; have hcg3_2 : w1.cell? ⟨g3, 2, none⟩ = some (.int .i64 c) := (blk_cell BKg3.out 2).trans rfl; have hfg3_2 := blk_frozen BKg3.out 2; have hcg3_3 : w1.cell? ⟨g3, 3, none⟩ = some (.int .i64 d) := (blk_cell BKg3.out 3).trans rfl; have hfg3_3 := blk_frozen BKg3.out 3; clear tok1; have tok2 : True := trivial) | (have _ := tok2; (with_reducible refine gate_dst (N := 4) rfl ?_); refine box_event ?hg (N := 4) ?hd (cs := #[.int .i64 e0, .int .i64 e1, .slice Ae le.length ce]) (t := 35) ?hr ?_; (case hd => rfl); (case hg => rfl); (case hr => first | (go_simp; done) | (go_simp; rfl)); intro g4 hg w2 hbox hb; have hs : Below w1.heap.size w1 w2 := below_step (by repeat (first | exact Below.refl _ _ | apply below_alloc | apply pw_below_drewN | apply below_drew1)) hb; have SZ2 := Aside0.mk (show w1.heap.size ≤ g4 ∧ g4 < w2.heap.size from ⟨by rw [hg]; exact (below_size (by repeat (first | exact Below.refl _ _ | apply below_alloc | apply pw_below_drewN | apply below_drew1))), blk_lt hbox⟩); (try clear hcg3_0 hfg3_0); (try clear hcg3_1 hfg3_1); (try clear hcg3_2 hfg3_2); (try clear hcg3_3 hfg3_3); have n_ := Aside0.mk (blk_below BKg3.out hs); clear BKg3; have BKg3 := n_; clear n_; have n_ := Aside0.mk (below_step HB.out hs); clear HB; have HB := n_; clear n_; have hneg3_g4 : g3 ≠ g4 := (by have := SZ2.out; have := SZ1.out; omega); have hneg4_g3 : g4 ≠ g3 := hneg3_g4.symm; have BKg4 := Aside0.mk hbox; clear hb hbox hg hs; have hcg3_0 : w2.cell? ⟨g3, 0, none⟩ = some (.int .i64 a) := (blk_cell BKg3.out 0).trans rfl; have hfg3_0 := blk_frozen BKg3.out 0; have hcg3_1 : w2.cell? ⟨g3, 1, none⟩ = some (.int .i64 b) := (blk_cell BKg3.out 1).trans rfl; have hfg3_1 := blk_frozen BKg3.out 1; have hcg3_2 : w2.cell? ⟨g3, 2, none⟩ = some (.int .i64 c) := (blk_cell BKg3.out 2).trans rfl; have hfg3_2 := blk_frozen BKg3.out 2; have hcg3_3 : w2.cell? ⟨g3, 3, none⟩ = some (.int .i64 d) := (blk_cell BKg3.out 3).trans rfl; have hfg3_3 := blk_frozen BKg3.out 3; have hcg4_0 : w2.cell? ⟨g4, 0, none⟩ = some (.int .i64 e0) := (blk_cell BKg4.out 0).trans rfl; have hfg4_0 := blk_frozen BKg4.out 0; have hcg4_1 : w2.cell? ⟨g4, 1, none⟩ = some (.int .i64 e1) := (blk_cell BKg4.out 1).trans rfl; have hfg4_1 := blk_frozen BKg4.out 1; have hcg4_2 : w2.cell? ⟨g4, 2, none⟩ = some (.slice Ae le.length ce) := (blk_cell BKg4.out 2).trans rfl; have hfg4_2 := blk_frozen BKg4.out 2; clear tok2; have tok3 : True := trivial) | (have _ := tok3; go_at_call 9; (with_reducible refine (twoslotlaw15_alive.calls 80000 true _ HA.out).mono ?_); rintro e w3 ⟨rfl, hb⟩; (try clear hcg3_0 hfg3_0); (try clear hcg3_1 hfg3_1); (try clear hcg3_2 hfg3_2); (try clear hcg3_3 hfg3_3); (try clear hcg4_0 hfg4_0); (try clear hcg4_1 hfg4_1); (try clear hcg4_2 hfg4_2); have hs : Below w2.heap.size w2 w3 := below_step (by repeat (first | exact Below.refl _ _ | apply below_alloc | apply pw_below_drewN | apply below_drew1)) hb; have hl : w2.heap.size ≤ _ := below_size (w := w2) (by repeat (first | exact Below.refl _ _ | apply below_alloc | apply pw_below_drewN | apply below_drew1)); have SZ3 := Aside0.mk (show w2.heap.size ≤ w3.heap.size from hs.size); have n_ := Aside0.mk (blk_below BKg3.out hs); clear BKg3; have BKg3 := n_; clear n_; have n_ := Aside0.mk (blk_below BKg4.out hs); clear BKg4; have BKg4 := n_; clear n_; have n_ := Aside0.mk (below_step HB.out hs); clear HB; have HB := n_; clear n_; clear hb hs; (try clear hl); have hcg3_0 : w3.cell? ⟨g3, 0, none⟩ = some (.int .i64 a) := (blk_cell BKg3.out 0).trans rfl; have hfg3_0 := blk_frozen BKg3.out 0; have hcg3_1 : w3.cell? ⟨g3, 1, none⟩ = some (.int .i64 b) := (blk_cell BKg3.out 1).trans rfl; have hfg3_1 := blk_frozen BKg3.out 1; have hcg3_2 : w3.cell? ⟨g3, 2, none⟩ = some (.int .i64 c) := (blk_cell BKg3.out 2).trans rfl; have hfg3_2 := blk_frozen BKg3.out 2; have hcg3_3 : w3.cell? ⟨g3, 3, none⟩ = some (.int .i64 d) := (blk_cell BKg3.out 3).trans rfl; have hfg3_3 := blk_frozen BKg3.out 3; have hcg4_0 : w3.cell? ⟨g4, 0, none⟩ = some (.int .i64 e0) := (blk_cell BKg4.out 0).trans rfl; have hfg4_0 := blk_frozen BKg4.out 0; have hcg4_1 : w3.cell? ⟨g4, 1, none⟩ = some (.int .i64 e1) := (blk_cell BKg4.out 1).trans rfl; have hfg4_1 := blk_frozen BKg4.out 1; have hcg4_2 : w3.cell? ⟨g4, 2, none⟩ = some (.slice Ae le.length ce) := (blk_cell BKg4.out 2).trans rfl; have hfg4_2 := blk_frozen BKg4.out 2; clear tok3))
  go_wp2
  go_ret
  exact ⟨rfl, HB.out⟩
set_option maxHeartbeats 8000000 in
set_option maxRecDepth 100000 in
theorem DescBytes.main (a b c d e0 e1 : Int) (Ae : Option Addr) (ce : Nat) (le : List S27) (Al : Option Addr) (cl : Nat) (l : List S27) (w : World) (hCe : Kd.C k27 w Ae le.length le) (hle : le.length ≤ ce) (hCl : Kd.C k27 w Al l.length l) (hll : l.length ≤ cl) (h5 : le.length ≤ 500) (h6 : l.length ≤ 500) (B C B' C' : List Int) (eb ec q : Int) (hB : desc_Bytes.f 80000 a b c d e0 e1 le = some (B, eb)) (hB2 : twoslotref15_Bytes.f 80000 a b c d e0 e1 le = some (B, eb)) (hL : desc_Leaf.f 80000 a b c d l = some (C, ec)) (hL2 : twoslotref15_Leaf.f 80000 a b c d l = some (C, ec)) (hK : desc_Check.f 80000 a b c d e0 e1 le = some q) (hK2 : twoslotref15_Check.f 80000 a b c d e0 e1 le = some q) (hS1 : twoslotlaw15_spoil.f 80000 B = some B') (hS2 : twoslotlaw15_spoil.f 80000 C = some C') :
    Calls Try.prog 4 #[.agg #[.int .i64 a, .int .i64 b, .int .i64 c, .int .i64 d], .agg #[.int .i64 e0, .int .i64 e1, .slice Ae le.length ce], .slice Al l.length cl] w fun e w' => e = .returned (.bool true) ∧ Below w.heap.size w w' := by
  have hu24 := Try.underlying24
  have hu35 := Try.underlying35
  have HB := Aside0.mk (Below.refl w.heap.size w)
  have HA := Aside0.mk (alive_ev 80000 (by omega))
  have b1 : decide ((500 : Int) < (le.length : Int)) = false := decide_eq_false (by omega)
  have b2 : decide (500 < le.length) = false := decide_eq_false (by omega)
  have b3 : decide ((500 : Int) < (l.length : Int)) = false := decide_eq_false (by omega)
  have b4 : decide (500 < l.length) = false := decide_eq_false (by omega)
  have Ah5 := Aside0.mk h5
  clear h5
  have Ah6 := Aside0.mk h6
  clear h6
  have AhB := Aside0.mk hB
  clear hB
  have AhB2 := Aside0.mk hB2
  clear hB2
  have AhL := Aside0.mk hL
  clear hL
  have AhL2 := Aside0.mk hL2
  clear hL2
  have AhK := Aside0.mk hK
  clear hK
  have AhK2 := Aside0.mk hK2
  clear hK2
  have AhS1 := Aside0.mk hS1
  clear hS1
  have AhS2 := Aside0.mk hS2
  clear hS2
  have AhCe := Aside0.mk hCe
  clear hCe
  have Ahle := Aside0.mk hle
  clear hle
  have AhCl := Aside0.mk hCl
  clear hCl
  have Ahll := Aside0.mk hll
  clear hll
  go_enter Try.func4, Try.ntmps4
  have tok1 : True := trivial
  go_wp2_with (first | (have _ := tok1; (with_reducible refine gate_dst (N := 3) rfl ?_); refine box_event ?hg (N := 3) ?hd (cs := #[.int .i64 a, .int .i64 b, .int .i64 c, .int .i64 d]) (t := 24) ?hr ?_; (case hd => rfl); (case hg => rfl); (case hr => first | (go_simp; done) | (go_simp; rfl)); intro g3 hg w1 hbox hb; have hs : Below w.heap.size w w1 := below_step (by repeat (first | exact Below.refl _ _ | apply below_alloc | apply pw_below_drewN | apply below_drew1)) hb; have SZ1 := Aside0.mk (show w.heap.size ≤ g3 ∧ g3 < w1.heap.size from ⟨by rw [hg]; exact (below_size (by repeat (first | exact Below.refl _ _ | apply below_alloc | apply pw_below_drewN | apply below_drew1))), blk_lt hbox⟩); have n_ := Aside0.mk (below_step HB.out hs); clear HB; have HB := n_; clear n_; have BKg3 := Aside0.mk hbox; clear hb hbox hg hs; have hcg3_0 : w1.cell? ⟨g3, 0, none⟩ = some (.int .i64 a) := (blk_cell BKg3.out 0).trans rfl; have hfg3_0 := blk_frozen BKg3.out 0; have hcg3_1 : w1.cell? ⟨g3, 1, none⟩ = some (.int .i64 b) := (blk_cell BKg3.out 1).trans rfl; have hfg3_1 := blk_frozen BKg3.out 1; have hcg3_2 : w1.cell? ⟨g3, 2, none⟩ = some (.int .i64 c) := (blk_cell BKg3.out 2).trans rfl; have hfg3_2 := blk_frozen BKg3.out 2; have hcg3_3 : w1.cell? ⟨g3, 3, none⟩ = some (.int .i64 d) := (blk_cell BKg3.out 3).trans rfl; have hfg3_3 := blk_frozen BKg3.out 3; clear tok1; have tok2 : True := trivial) | (have _ := tok2; (with_reducible refine gate_dst (N := 4) rfl ?_); refine box_event ?hg (N := 4) ?hd (cs := #[.int .i64 e0, .int .i64 e1, .slice Ae le.length ce]) (t := 35) ?hr ?_; (case hd => rfl); (case hg => rfl); (case hr => first | (go_simp; done) | (go_simp; rfl)); intro g4 hg w2 hbox hb; have hs : Below w1.heap.size w1 w2 := below_step (by repeat (first | exact Below.refl _ _ | apply below_alloc | apply pw_below_drewN | apply below_drew1)) hb; have SZ2 := Aside0.mk (show w1.heap.size ≤ g4 ∧ g4 < w2.heap.size from ⟨by rw [hg]; exact (below_size (by repeat (first | exact Below.refl _ _ | apply below_alloc | apply pw_below_drewN | apply below_drew1))), blk_lt hbox⟩); (try clear hcg3_0 hfg3_0); (try clear hcg3_1 hfg3_1); (try clear hcg3_2 hfg3_2); (try clear hcg3_3 hfg3_3); have n_ := Aside0.mk (blk_below BKg3.out hs); clear BKg3; have BKg3 := n_; clear n_; have n_ := Aside0.mk (below_step HB.out hs); clear HB; have HB := n_; clear n_; have hneg3_g4 : g3 ≠ g4 := (by have := SZ2.out; have := SZ1.out; omega); have hneg4_g3 : g4 ≠ g3 := hneg3_g4.symm; have BKg4 := Aside0.mk hbox; clear hb hbox hg hs; have hcg3_0 : w2.cell? ⟨g3, 0, none⟩ = some (.int .i64 a) := (blk_cell BKg3.out 0).trans rfl; have hfg3_0 := blk_frozen BKg3.out 0; have hcg3_1 : w2.cell? ⟨g3, 1, none⟩ = some (.int .i64 b) := (blk_cell BKg3.out 1).trans rfl; have hfg3_1 := blk_frozen BKg3.out 1; have hcg3_2 : w2.cell? ⟨g3, 2, none⟩ = some (.int .i64 c) := (blk_cell BKg3.out 2).trans rfl; have hfg3_2 := blk_frozen BKg3.out 2; have hcg3_3 : w2.cell? ⟨g3, 3, none⟩ = some (.int .i64 d) := (blk_cell BKg3.out 3).trans rfl; have hfg3_3 := blk_frozen BKg3.out 3; have hcg4_0 : w2.cell? ⟨g4, 0, none⟩ = some (.int .i64 e0) := (blk_cell BKg4.out 0).trans rfl; have hfg4_0 := blk_frozen BKg4.out 0; have hcg4_1 : w2.cell? ⟨g4, 1, none⟩ = some (.int .i64 e1) := (blk_cell BKg4.out 1).trans rfl; have hfg4_1 := blk_frozen BKg4.out 1; have hcg4_2 : w2.cell? ⟨g4, 2, none⟩ = some (.slice Ae le.length ce) := (blk_cell BKg4.out 2).trans rfl; have hfg4_2 := blk_frozen BKg4.out 2; clear tok2; have tok3 : True := trivial) | (have _ := tok3; go_at_call 9; (with_reducible refine (twoslotlaw15_alive.calls 80000 true _ HA.out).mono ?_); rintro e w3 ⟨rfl, hb⟩; (try clear hcg3_0 hfg3_0); (try clear hcg3_1 hfg3_1); (try clear hcg3_2 hfg3_2); (try clear hcg3_3 hfg3_3); (try clear hcg4_0 hfg4_0); (try clear hcg4_1 hfg4_1); (try clear hcg4_2 hfg4_2); have hs : Below w2.heap.size w2 w3 := below_step (by repeat (first | exact Below.refl _ _ | apply below_alloc | apply pw_below_drewN | apply below_drew1)) hb; have hl : w2.heap.size ≤ _ := below_size (w := w2) (by repeat (first | exact Below.refl _ _ | apply below_alloc | apply pw_below_drewN | apply below_drew1)); have SZ3 := Aside0.mk (show w2.heap.size ≤ w3.heap.size from hs.size); have n_ := Aside0.mk (blk_below BKg3.out hs); clear BKg3; have BKg3 := n_; clear n_; have n_ := Aside0.mk (blk_below BKg4.out hs); clear BKg4; have BKg4 := n_; clear n_; have n_ := Aside0.mk (below_step HB.out hs); clear HB; have HB := n_; clear n_; clear hb hs; (try clear hl); have hcg3_0 : w3.cell? ⟨g3, 0, none⟩ = some (.int .i64 a) := (blk_cell BKg3.out 0).trans rfl; have hfg3_0 := blk_frozen BKg3.out 0; have hcg3_1 : w3.cell? ⟨g3, 1, none⟩ = some (.int .i64 b) := (blk_cell BKg3.out 1).trans rfl; have hfg3_1 := blk_frozen BKg3.out 1; have hcg3_2 : w3.cell? ⟨g3, 2, none⟩ = some (.int .i64 c) := (blk_cell BKg3.out 2).trans rfl; have hfg3_2 := blk_frozen BKg3.out 2; have hcg3_3 : w3.cell? ⟨g3, 3, none⟩ = some (.int .i64 d) := (blk_cell BKg3.out 3).trans rfl; have hfg3_3 := blk_frozen BKg3.out 3; have hcg4_0 : w3.cell? ⟨g4, 0, none⟩ = some (.int .i64 e0) := (blk_cell BKg4.out 0).trans rfl; have hfg4_0 := blk_frozen BKg4.out 0; have hcg4_1 : w3.cell? ⟨g4, 1, none⟩ = some (.int .i64 e1) := (blk_cell BKg4.out 1).trans rfl; have hfg4_1 := blk_frozen BKg4.out 1; have hcg4_2 : w3.cell? ⟨g4, 2, none⟩ = some (.slice Ae le.length ce) := (blk_cell BKg4.out 2).trans rfl; have hfg4_2 := blk_frozen BKg4.out 2; clear tok3; have tok4 : True := trivial) | (have _ := tok4; (with_reducible refine gate_dst (N := 8) rfl ?_); refine box_event ?hg (N := 8) ?hd (cs := #[.int .i64 0, .int .i64 0, .slice none 0 0]) (t := 35) ?hr ?_; (case hd => rfl); (case hg => rfl); (case hr => first | (go_simp; done) | (go_simp; rfl)); intro g8 hg w4 hbox hb; have hs : Below w3.heap.size w3 w4 := below_step (by repeat (first | exact Below.refl _ _ | apply below_alloc | apply pw_below_drewN | apply below_drew1)) hb; have SZ4 := Aside0.mk (show w3.heap.size ≤ g8 ∧ g8 < w4.heap.size from ⟨by rw [hg]; exact (below_size (by repeat (first | exact Below.refl _ _ | apply below_alloc | apply pw_below_drewN | apply below_drew1))), blk_lt hbox⟩); (try clear hcg3_0 hfg3_0); (try clear hcg3_1 hfg3_1); (try clear hcg3_2 hfg3_2); (try clear hcg3_3 hfg3_3); (try clear hcg4_0 hfg4_0); (try clear hcg4_1 hfg4_1); (try clear hcg4_2 hfg4_2); have n_ := Aside0.mk (blk_below BKg3.out hs); clear BKg3; have BKg3 := n_; clear n_; have n_ := Aside0.mk (blk_below BKg4.out hs); clear BKg4; have BKg4 := n_; clear n_; have n_ := Aside0.mk (below_step HB.out hs); clear HB; have HB := n_; clear n_; have hneg3_g8 : g3 ≠ g8 := (by have := SZ4.out; have := SZ1.out; have := SZ2.out; have := SZ3.out; omega); have hneg8_g3 : g8 ≠ g3 := hneg3_g8.symm; have hneg4_g8 : g4 ≠ g8 := (by have := SZ4.out; have := SZ1.out; have := SZ2.out; have := SZ3.out; omega); have hneg8_g4 : g8 ≠ g4 := hneg4_g8.symm; have BKg8 := Aside0.mk hbox; clear hb hbox hg hs; have hcg3_0 : w4.cell? ⟨g3, 0, none⟩ = some (.int .i64 a) := (blk_cell BKg3.out 0).trans rfl; have hfg3_0 := blk_frozen BKg3.out 0; have hcg3_1 : w4.cell? ⟨g3, 1, none⟩ = some (.int .i64 b) := (blk_cell BKg3.out 1).trans rfl; have hfg3_1 := blk_frozen BKg3.out 1; have hcg3_2 : w4.cell? ⟨g3, 2, none⟩ = some (.int .i64 c) := (blk_cell BKg3.out 2).trans rfl; have hfg3_2 := blk_frozen BKg3.out 2; have hcg3_3 : w4.cell? ⟨g3, 3, none⟩ = some (.int .i64 d) := (blk_cell BKg3.out 3).trans rfl; have hfg3_3 := blk_frozen BKg3.out 3; have hcg4_0 : w4.cell? ⟨g4, 0, none⟩ = some (.int .i64 e0) := (blk_cell BKg4.out 0).trans rfl; have hfg4_0 := blk_frozen BKg4.out 0; have hcg4_1 : w4.cell? ⟨g4, 1, none⟩ = some (.int .i64 e1) := (blk_cell BKg4.out 1).trans rfl; have hfg4_1 := blk_frozen BKg4.out 1; have hcg4_2 : w4.cell? ⟨g4, 2, none⟩ = some (.slice Ae le.length ce) := (blk_cell BKg4.out 2).trans rfl; have hfg4_2 := blk_frozen BKg4.out 2; have hcg8_0 : w4.cell? ⟨g8, 0, none⟩ = some (.int .i64 0) := (blk_cell BKg8.out 0).trans rfl; have hfg8_0 := blk_frozen BKg8.out 0; have hcg8_1 : w4.cell? ⟨g8, 1, none⟩ = some (.int .i64 0) := (blk_cell BKg8.out 1).trans rfl; have hfg8_1 := blk_frozen BKg8.out 1; have hcg8_2 : w4.cell? ⟨g8, 2, none⟩ = some (.slice none 0 0) := (blk_cell BKg8.out 2).trans rfl; have hfg8_2 := blk_frozen BKg8.out 2; clear tok4))
  (try clear hcg3_0 hfg3_0)
  (try clear hcg3_1 hfg3_1)
  (try clear hcg3_2 hfg3_2)
  (try clear hcg3_3 hfg3_3)
  (try clear hcg4_0 hfg4_0)
  (try clear hcg4_1 hfg4_1)
  (try clear hcg4_2 hfg4_2)
  (try clear hcg8_0 hfg8_0)
  (try clear hcg8_1 hfg8_1)
  (try clear hcg8_2 hfg8_2)
  have n_ := Aside0.mk (blk_far BKg3.out (p := ⟨g8, 0, none⟩) (by show _ ≠ _; have := SZ1.out; have := SZ2.out; have := SZ3.out; have := SZ4.out; omega) (.int .i64 e0))
  clear BKg3
  have BKg3 := n_
  clear n_
  have n_ := Aside0.mk (blk_far BKg4.out (p := ⟨g8, 0, none⟩) (by show _ ≠ _; have := SZ1.out; have := SZ2.out; have := SZ3.out; have := SZ4.out; omega) (.int .i64 e0))
  clear BKg4
  have BKg4 := n_
  clear n_
  have n_ := Aside0.mk (blk_put BKg8.out 0 (.int .i64 e0) rfl)
  clear BKg8
  have BKg8 := n_
  clear n_
  have n_ := Aside0.mk (below_set HB.out (by have := SZ1.out; have := SZ2.out; have := SZ3.out; have := SZ4.out; omega : w.heap.size ≤ g8) (j := 0) (v := .int .i64 e0))
  clear HB
  have HB := n_
  clear n_
  have n_ := Aside0.mk (blk_far BKg3.out (p := ⟨g8, 1, none⟩) (by show _ ≠ _; have := SZ1.out; have := SZ2.out; have := SZ3.out; have := SZ4.out; omega) (.int .i64 e1))
  clear BKg3
  have BKg3 := n_
  clear n_
  have n_ := Aside0.mk (blk_far BKg4.out (p := ⟨g8, 1, none⟩) (by show _ ≠ _; have := SZ1.out; have := SZ2.out; have := SZ3.out; have := SZ4.out; omega) (.int .i64 e1))
  clear BKg4
  have BKg4 := n_
  clear n_
  have n_ := Aside0.mk (blk_put BKg8.out 1 (.int .i64 e1) rfl)
  clear BKg8
  have BKg8 := n_
  clear n_
  have n_ := Aside0.mk (below_set HB.out (by have := SZ1.out; have := SZ2.out; have := SZ3.out; have := SZ4.out; omega : w.heap.size ≤ g8) (j := 1) (v := .int .i64 e1))
  clear HB
  have HB := n_
  clear n_
  have n_ := Aside0.mk (blk_far BKg3.out (p := ⟨g8, 2, none⟩) (by show _ ≠ _; have := SZ1.out; have := SZ2.out; have := SZ3.out; have := SZ4.out; omega) (.slice Ae le.length ce))
  clear BKg3
  have BKg3 := n_
  clear n_
  have n_ := Aside0.mk (blk_far BKg4.out (p := ⟨g8, 2, none⟩) (by show _ ≠ _; have := SZ1.out; have := SZ2.out; have := SZ3.out; have := SZ4.out; omega) (.slice Ae le.length ce))
  clear BKg4
  have BKg4 := n_
  clear n_
  have n_ := Aside0.mk (blk_put BKg8.out 2 (.slice Ae le.length ce) rfl)
  clear BKg8
  have BKg8 := n_
  clear n_
  have n_ := Aside0.mk (below_set HB.out (by have := SZ1.out; have := SZ2.out; have := SZ3.out; have := SZ4.out; omega : w.heap.size ≤ g8) (j := 2) (v := .slice Ae le.length ce))
  clear HB
  have HB := n_
  clear n_
  have SZ5 := Aside0.mk (show w4.heap.size ≤ (((w4.setCell ⟨g8, 0, none⟩ (.int .i64 e0)).setCell ⟨g8, 1, none⟩ (.int .i64 e1)).setCell ⟨g8, 2, none⟩ (.slice Ae le.length ce)).heap.size from by simp [World.setCell])
  generalize (((w4.setCell ⟨g8, 0, none⟩ (.int .i64 e0)).setCell ⟨g8, 1, none⟩ (.int .i64 e1)).setCell ⟨g8, 2, none⟩ (.slice Ae le.length ce)) = w5 at HB BKg3 BKg4 BKg8 SZ5 ⊢
  have hcg3_0 : w5.cell? ⟨g3, 0, none⟩ = some (.int .i64 a) := (blk_cell BKg3.out 0).trans rfl
  have hfg3_0 := blk_frozen BKg3.out 0
  have hcg3_1 : w5.cell? ⟨g3, 1, none⟩ = some (.int .i64 b) := (blk_cell BKg3.out 1).trans rfl
  have hfg3_1 := blk_frozen BKg3.out 1
  have hcg3_2 : w5.cell? ⟨g3, 2, none⟩ = some (.int .i64 c) := (blk_cell BKg3.out 2).trans rfl
  have hfg3_2 := blk_frozen BKg3.out 2
  have hcg3_3 : w5.cell? ⟨g3, 3, none⟩ = some (.int .i64 d) := (blk_cell BKg3.out 3).trans rfl
  have hfg3_3 := blk_frozen BKg3.out 3
  have hcg4_0 : w5.cell? ⟨g4, 0, none⟩ = some (.int .i64 e0) := (blk_cell BKg4.out 0).trans rfl
  have hfg4_0 := blk_frozen BKg4.out 0
  have hcg4_1 : w5.cell? ⟨g4, 1, none⟩ = some (.int .i64 e1) := (blk_cell BKg4.out 1).trans rfl
  have hfg4_1 := blk_frozen BKg4.out 1
  have hcg4_2 : w5.cell? ⟨g4, 2, none⟩ = some (.slice Ae le.length ce) := (blk_cell BKg4.out 2).trans rfl
  have hfg4_2 := blk_frozen BKg4.out 2
  have hcg8_0 : w5.cell? ⟨g8, 0, none⟩ = some (.int .i64 e0) := (blk_cell BKg8.out 0).trans rfl
  have hfg8_0 := blk_frozen BKg8.out 0
  have hcg8_1 : w5.cell? ⟨g8, 1, none⟩ = some (.int .i64 e1) := (blk_cell BKg8.out 1).trans rfl
  have hfg8_1 := blk_frozen BKg8.out 1
  have hcg8_2 : w5.cell? ⟨g8, 2, none⟩ = some (.slice Ae le.length ce) := (blk_cell BKg8.out 2).trans rfl
  have hfg8_2 := blk_frozen BKg8.out 2
  have tok5 : True := trivial
  go_wp2_with (first | (have _ := tok5; go_at_call 16; (with_reducible refine (lent2 Ae _ le _ ?s1 Ahle.out (by have := Ah5.out; omega)).mono ?_); (case s1 => exact Kd.C_below AhCe.out (by repeat (first | exact HB.out | apply below_alloc | apply pw_below_drewN | apply below_drew1))); rintro e w6 ⟨x_A, x_c, rfl, hcap, hft, hb⟩; (try clear hcg3_0 hfg3_0); (try clear hcg3_1 hfg3_1); (try clear hcg3_2 hfg3_2); (try clear hcg3_3 hfg3_3); (try clear hcg4_0 hfg4_0); (try clear hcg4_1 hfg4_1); (try clear hcg4_2 hfg4_2); (try clear hcg8_0 hfg8_0); (try clear hcg8_1 hfg8_1); (try clear hcg8_2 hfg8_2); have hs : Below w5.heap.size w5 w6 := below_step (by repeat (first | exact Below.refl _ _ | apply below_alloc | apply pw_below_drewN | apply below_drew1)) hb; have hl : w5.heap.size ≤ _ := below_size (w := w5) (by repeat (first | exact Below.refl _ _ | apply below_alloc | apply pw_below_drewN | apply below_drew1)); have SZ6 := Aside0.mk (show w5.heap.size ≤ w6.heap.size from hs.size); have n_ := Aside0.mk (blk_below BKg3.out hs); clear BKg3; have BKg3 := n_; clear n_; have n_ := Aside0.mk (blk_below BKg4.out hs); clear BKg4; have BKg4 := n_; clear n_; have n_ := Aside0.mk (blk_below BKg8.out hs); clear BKg8; have BKg8 := n_; clear n_; have HFx := Aside0.mk (foot_iv hft hl); have n_ := Aside0.mk (below_step HB.out hs); clear HB; have HB := n_; clear n_; have HCx := Aside0.mk hcap; clear hcap hft; clear hb hs; (try clear hl); have hcg3_0 : w6.cell? ⟨g3, 0, none⟩ = some (.int .i64 a) := (blk_cell BKg3.out 0).trans rfl; have hfg3_0 := blk_frozen BKg3.out 0; have hcg3_1 : w6.cell? ⟨g3, 1, none⟩ = some (.int .i64 b) := (blk_cell BKg3.out 1).trans rfl; have hfg3_1 := blk_frozen BKg3.out 1; have hcg3_2 : w6.cell? ⟨g3, 2, none⟩ = some (.int .i64 c) := (blk_cell BKg3.out 2).trans rfl; have hfg3_2 := blk_frozen BKg3.out 2; have hcg3_3 : w6.cell? ⟨g3, 3, none⟩ = some (.int .i64 d) := (blk_cell BKg3.out 3).trans rfl; have hfg3_3 := blk_frozen BKg3.out 3; have hcg4_0 : w6.cell? ⟨g4, 0, none⟩ = some (.int .i64 e0) := (blk_cell BKg4.out 0).trans rfl; have hfg4_0 := blk_frozen BKg4.out 0; have hcg4_1 : w6.cell? ⟨g4, 1, none⟩ = some (.int .i64 e1) := (blk_cell BKg4.out 1).trans rfl; have hfg4_1 := blk_frozen BKg4.out 1; have hcg4_2 : w6.cell? ⟨g4, 2, none⟩ = some (.slice Ae le.length ce) := (blk_cell BKg4.out 2).trans rfl; have hfg4_2 := blk_frozen BKg4.out 2; have hcg8_0 : w6.cell? ⟨g8, 0, none⟩ = some (.int .i64 e0) := (blk_cell BKg8.out 0).trans rfl; have hfg8_0 := blk_frozen BKg8.out 0; have hcg8_1 : w6.cell? ⟨g8, 1, none⟩ = some (.int .i64 e1) := (blk_cell BKg8.out 1).trans rfl; have hfg8_1 := blk_frozen BKg8.out 1; have hcg8_2 : w6.cell? ⟨g8, 2, none⟩ = some (.slice Ae le.length ce) := (blk_cell BKg8.out 2).trans rfl; have hfg8_2 := blk_frozen BKg8.out 2; clear tok5))
  (try clear hcg3_0 hfg3_0)
  (try clear hcg3_1 hfg3_1)
  (try clear hcg3_2 hfg3_2)
  (try clear hcg3_3 hfg3_3)
  (try clear hcg4_0 hfg4_0)
  (try clear hcg4_1 hfg4_1)
  (try clear hcg4_2 hfg4_2)
  (try clear hcg8_0 hfg8_0)
  (try clear hcg8_1 hfg8_1)
  (try clear hcg8_2 hfg8_2)
  have n_ := Aside0.mk (blk_far BKg3.out (p := ⟨g8, 2, none⟩) (by show _ ≠ _; have := SZ1.out; have := SZ2.out; have := SZ3.out; have := SZ4.out; have := SZ5.out; have := SZ6.out; omega) (.slice x_A le.length x_c))
  clear BKg3
  have BKg3 := n_
  clear n_
  have n_ := Aside0.mk (blk_far BKg4.out (p := ⟨g8, 2, none⟩) (by show _ ≠ _; have := SZ1.out; have := SZ2.out; have := SZ3.out; have := SZ4.out; have := SZ5.out; have := SZ6.out; omega) (.slice x_A le.length x_c))
  clear BKg4
  have BKg4 := n_
  clear n_
  have n_ := Aside0.mk (blk_put BKg8.out 2 (.slice x_A le.length x_c) rfl)
  clear BKg8
  have BKg8 := n_
  clear n_
  have n_ := Aside0.mk (foot_far HFx.out (p := ⟨g8, 2, none⟩) (Iv_ne (g := g8) (by have := SZ1.out; have := SZ2.out; have := SZ3.out; have := SZ4.out; have := SZ5.out; have := SZ6.out; omega)) (.slice x_A le.length x_c))
  clear HFx
  have HFx := n_
  clear n_
  have n_ := Aside0.mk (below_set HB.out (by have := SZ1.out; have := SZ2.out; have := SZ3.out; have := SZ4.out; have := SZ5.out; have := SZ6.out; omega : w.heap.size ≤ g8) (j := 2) (v := .slice x_A le.length x_c))
  clear HB
  have HB := n_
  clear n_
  have SZ7 := Aside0.mk (show w6.heap.size ≤ (w6.setCell ⟨g8, 2, none⟩ (.slice x_A le.length x_c)).heap.size from by simp [World.setCell])
  generalize (w6.setCell ⟨g8, 2, none⟩ (.slice x_A le.length x_c)) = w7 at HB BKg3 BKg4 BKg8 HFx SZ7 ⊢
  have hcg3_0 : w7.cell? ⟨g3, 0, none⟩ = some (.int .i64 a) := (blk_cell BKg3.out 0).trans rfl
  have hfg3_0 := blk_frozen BKg3.out 0
  have hcg3_1 : w7.cell? ⟨g3, 1, none⟩ = some (.int .i64 b) := (blk_cell BKg3.out 1).trans rfl
  have hfg3_1 := blk_frozen BKg3.out 1
  have hcg3_2 : w7.cell? ⟨g3, 2, none⟩ = some (.int .i64 c) := (blk_cell BKg3.out 2).trans rfl
  have hfg3_2 := blk_frozen BKg3.out 2
  have hcg3_3 : w7.cell? ⟨g3, 3, none⟩ = some (.int .i64 d) := (blk_cell BKg3.out 3).trans rfl
  have hfg3_3 := blk_frozen BKg3.out 3
  have hcg4_0 : w7.cell? ⟨g4, 0, none⟩ = some (.int .i64 e0) := (blk_cell BKg4.out 0).trans rfl
  have hfg4_0 := blk_frozen BKg4.out 0
  have hcg4_1 : w7.cell? ⟨g4, 1, none⟩ = some (.int .i64 e1) := (blk_cell BKg4.out 1).trans rfl
  have hfg4_1 := blk_frozen BKg4.out 1
  have hcg4_2 : w7.cell? ⟨g4, 2, none⟩ = some (.slice Ae le.length ce) := (blk_cell BKg4.out 2).trans rfl
  have hfg4_2 := blk_frozen BKg4.out 2
  have hcg8_0 : w7.cell? ⟨g8, 0, none⟩ = some (.int .i64 e0) := (blk_cell BKg8.out 0).trans rfl
  have hfg8_0 := blk_frozen BKg8.out 0
  have hcg8_1 : w7.cell? ⟨g8, 1, none⟩ = some (.int .i64 e1) := (blk_cell BKg8.out 1).trans rfl
  have hfg8_1 := blk_frozen BKg8.out 1
  have hcg8_2 : w7.cell? ⟨g8, 2, none⟩ = some (.slice x_A le.length x_c) := (blk_cell BKg8.out 2).trans rfl
  have hfg8_2 := blk_frozen BKg8.out 2
  have tok6 : True := trivial
  go_wp2_with (first | (have _ := tok6; go_at_call 16; (with_reducible refine (lent2 Al _ l _ ?s1 Ahll.out (by have := Ah6.out; omega)).mono ?_); (case s1 => exact Kd.C_below AhCl.out (by repeat (first | exact HB.out | apply below_alloc | apply pw_below_drewN | apply below_drew1))); rintro e w8 ⟨y_A, y_c, rfl, hcap, hft, hb⟩; (try clear hcg3_0 hfg3_0); (try clear hcg3_1 hfg3_1); (try clear hcg3_2 hfg3_2); (try clear hcg3_3 hfg3_3); (try clear hcg4_0 hfg4_0); (try clear hcg4_1 hfg4_1); (try clear hcg4_2 hfg4_2); (try clear hcg8_0 hfg8_0); (try clear hcg8_1 hfg8_1); (try clear hcg8_2 hfg8_2); have hs : Below w7.heap.size w7 w8 := below_step (by repeat (first | exact Below.refl _ _ | apply below_alloc | apply pw_below_drewN | apply below_drew1)) hb; have hl : w7.heap.size ≤ _ := below_size (w := w7) (by repeat (first | exact Below.refl _ _ | apply below_alloc | apply pw_below_drewN | apply below_drew1)); have SZ8 := Aside0.mk (show w7.heap.size ≤ w8.heap.size from hs.size); have n_ := Aside0.mk (blk_below BKg3.out hs); clear BKg3; have BKg3 := n_; clear n_; have n_ := Aside0.mk (blk_below BKg4.out hs); clear BKg4; have BKg4 := n_; clear n_; have n_ := Aside0.mk (blk_below BKg8.out hs); clear BKg8; have BKg8 := n_; clear n_; have n_ := Aside0.mk (foot_below HFx.out hs); clear HFx; have HFx := n_; clear n_; have HFy := Aside0.mk (foot_iv hft hl); have n_ := Aside0.mk (below_step HB.out hs); clear HB; have HB := n_; clear n_; have HCy := Aside0.mk hcap; clear hcap hft; clear hb hs; (try clear hl); have hcg3_0 : w8.cell? ⟨g3, 0, none⟩ = some (.int .i64 a) := (blk_cell BKg3.out 0).trans rfl; have hfg3_0 := blk_frozen BKg3.out 0; have hcg3_1 : w8.cell? ⟨g3, 1, none⟩ = some (.int .i64 b) := (blk_cell BKg3.out 1).trans rfl; have hfg3_1 := blk_frozen BKg3.out 1; have hcg3_2 : w8.cell? ⟨g3, 2, none⟩ = some (.int .i64 c) := (blk_cell BKg3.out 2).trans rfl; have hfg3_2 := blk_frozen BKg3.out 2; have hcg3_3 : w8.cell? ⟨g3, 3, none⟩ = some (.int .i64 d) := (blk_cell BKg3.out 3).trans rfl; have hfg3_3 := blk_frozen BKg3.out 3; have hcg4_0 : w8.cell? ⟨g4, 0, none⟩ = some (.int .i64 e0) := (blk_cell BKg4.out 0).trans rfl; have hfg4_0 := blk_frozen BKg4.out 0; have hcg4_1 : w8.cell? ⟨g4, 1, none⟩ = some (.int .i64 e1) := (blk_cell BKg4.out 1).trans rfl; have hfg4_1 := blk_frozen BKg4.out 1; have hcg4_2 : w8.cell? ⟨g4, 2, none⟩ = some (.slice Ae le.length ce) := (blk_cell BKg4.out 2).trans rfl; have hfg4_2 := blk_frozen BKg4.out 2; have hcg8_0 : w8.cell? ⟨g8, 0, none⟩ = some (.int .i64 e0) := (blk_cell BKg8.out 0).trans rfl; have hfg8_0 := blk_frozen BKg8.out 0; have hcg8_1 : w8.cell? ⟨g8, 1, none⟩ = some (.int .i64 e1) := (blk_cell BKg8.out 1).trans rfl; have hfg8_1 := blk_frozen BKg8.out 1; have hcg8_2 : w8.cell? ⟨g8, 2, none⟩ = some (.slice x_A le.length x_c) := (blk_cell BKg8.out 2).trans rfl; have hfg8_2 := blk_frozen BKg8.out 2; clear tok6; have tok7 : True := trivial) | (have _ := tok7; go_at_call 14; (with_reducible refine (desc_Bytes.calls 80000 a b c d e0 e1 x_A x_c le B eb _ ?s1 (by have := HCx.out; omega) AhB.out).mono ?_); (case s1 => exact marked_take (foot_now (HFx.out) (by repeat (first | exact Below.refl _ _ | apply below_alloc | apply pw_below_drewN | apply below_drew1)))); rintro e w9 ⟨vb, rfl, ho, hb⟩; (try clear hcg3_0 hfg3_0); (try clear hcg3_1 hfg3_1); (try clear hcg3_2 hfg3_2); (try clear hcg3_3 hfg3_3); (try clear hcg4_0 hfg4_0); (try clear hcg4_1 hfg4_1); (try clear hcg4_2 hfg4_2); (try clear hcg8_0 hfg8_0); (try clear hcg8_1 hfg8_1); (try clear hcg8_2 hfg8_2); have hs : Below w8.heap.size w8 w9 := below_step (by repeat (first | exact Below.refl _ _ | apply below_alloc | apply pw_below_drewN | apply below_drew1)) hb; have hl : w8.heap.size ≤ _ := below_size (w := w8) (by repeat (first | exact Below.refl _ _ | apply below_alloc | apply pw_below_drewN | apply below_drew1)); have SZ9 := Aside0.mk (show w8.heap.size ≤ w9.heap.size from hs.size); have n_ := Aside0.mk (blk_below BKg3.out hs); clear BKg3; have BKg3 := n_; clear n_; have n_ := Aside0.mk (blk_below BKg4.out hs); clear BKg4; have BKg4 := n_; clear n_; have n_ := Aside0.mk (blk_below BKg8.out hs); clear BKg8; have BKg8 := n_; clear n_; have n_ := Aside0.mk (foot_below HFx.out hs); clear HFx; have HFx := n_; clear n_; have n_ := Aside0.mk (foot_below HFy.out hs); clear HFy; have HFy := n_; clear n_; have HOb := Aside0.mk (R_iv ho (below_size (by repeat (first | exact HB.out | apply below_alloc | apply pw_below_drewN | apply below_drew1))) hl); have n_ := Aside0.mk (below_step HB.out hs); clear HB; have HB := n_; clear n_; clear ho; clear hb hs; (try clear hl); have hcg3_0 : w9.cell? ⟨g3, 0, none⟩ = some (.int .i64 a) := (blk_cell BKg3.out 0).trans rfl; have hfg3_0 := blk_frozen BKg3.out 0; have hcg3_1 : w9.cell? ⟨g3, 1, none⟩ = some (.int .i64 b) := (blk_cell BKg3.out 1).trans rfl; have hfg3_1 := blk_frozen BKg3.out 1; have hcg3_2 : w9.cell? ⟨g3, 2, none⟩ = some (.int .i64 c) := (blk_cell BKg3.out 2).trans rfl; have hfg3_2 := blk_frozen BKg3.out 2; have hcg3_3 : w9.cell? ⟨g3, 3, none⟩ = some (.int .i64 d) := (blk_cell BKg3.out 3).trans rfl; have hfg3_3 := blk_frozen BKg3.out 3; have hcg4_0 : w9.cell? ⟨g4, 0, none⟩ = some (.int .i64 e0) := (blk_cell BKg4.out 0).trans rfl; have hfg4_0 := blk_frozen BKg4.out 0; have hcg4_1 : w9.cell? ⟨g4, 1, none⟩ = some (.int .i64 e1) := (blk_cell BKg4.out 1).trans rfl; have hfg4_1 := blk_frozen BKg4.out 1; have hcg4_2 : w9.cell? ⟨g4, 2, none⟩ = some (.slice Ae le.length ce) := (blk_cell BKg4.out 2).trans rfl; have hfg4_2 := blk_frozen BKg4.out 2; have hcg8_0 : w9.cell? ⟨g8, 0, none⟩ = some (.int .i64 e0) := (blk_cell BKg8.out 0).trans rfl; have hfg8_0 := blk_frozen BKg8.out 0; have hcg8_1 : w9.cell? ⟨g8, 1, none⟩ = some (.int .i64 e1) := (blk_cell BKg8.out 1).trans rfl; have hfg8_1 := blk_frozen BKg8.out 1; have hcg8_2 : w9.cell? ⟨g8, 2, none⟩ = some (.slice x_A le.length x_c) := (blk_cell BKg8.out 2).trans rfl; have hfg8_2 := blk_frozen BKg8.out 2; clear tok7; have tok8 : True := trivial) | (have _ := tok8; go_at_call 11; (with_reducible refine (desc_Leaf.calls 80000 a b c d y_A y_c l C ec _ ?s1 (by have := HCy.out; omega) AhL.out).mono ?_); (case s1 => exact marked_take (foot_now (HFy.out) (by repeat (first | exact Below.refl _ _ | apply below_alloc | apply pw_below_drewN | apply below_drew1)))); rintro e w10 ⟨vc, rfl, ho, hb⟩; (try clear hcg3_0 hfg3_0); (try clear hcg3_1 hfg3_1); (try clear hcg3_2 hfg3_2); (try clear hcg3_3 hfg3_3); (try clear hcg4_0 hfg4_0); (try clear hcg4_1 hfg4_1); (try clear hcg4_2 hfg4_2); (try clear hcg8_0 hfg8_0); (try clear hcg8_1 hfg8_1); (try clear hcg8_2 hfg8_2); have hs : Below w9.heap.size w9 w10 := below_step (by repeat (first | exact Below.refl _ _ | apply below_alloc | apply pw_below_drewN | apply below_drew1)) hb; have hl : w9.heap.size ≤ _ := below_size (w := w9) (by repeat (first | exact Below.refl _ _ | apply below_alloc | apply pw_below_drewN | apply below_drew1)); have SZ10 := Aside0.mk (show w9.heap.size ≤ w10.heap.size from hs.size); have n_ := Aside0.mk (blk_below BKg3.out hs); clear BKg3; have BKg3 := n_; clear n_; have n_ := Aside0.mk (blk_below BKg4.out hs); clear BKg4; have BKg4 := n_; clear n_; have n_ := Aside0.mk (blk_below BKg8.out hs); clear BKg8; have BKg8 := n_; clear n_; have n_ := Aside0.mk (foot_below HFx.out hs); clear HFx; have HFx := n_; clear n_; have n_ := Aside0.mk (foot_below HFy.out hs); clear HFy; have HFy := n_; clear n_; have n_ := Aside0.mk (Kd.R_below HOb.out hs); clear HOb; have HOb := n_; clear n_; have HOc := Aside0.mk (R_iv ho (below_size (by repeat (first | exact HB.out | apply below_alloc | apply pw_below_drewN | apply below_drew1))) hl); have n_ := Aside0.mk (below_step HB.out hs); clear HB; have HB := n_; clear n_; clear ho; clear hb hs; (try clear hl); have hcg3_0 : w10.cell? ⟨g3, 0, none⟩ = some (.int .i64 a) := (blk_cell BKg3.out 0).trans rfl; have hfg3_0 := blk_frozen BKg3.out 0; have hcg3_1 : w10.cell? ⟨g3, 1, none⟩ = some (.int .i64 b) := (blk_cell BKg3.out 1).trans rfl; have hfg3_1 := blk_frozen BKg3.out 1; have hcg3_2 : w10.cell? ⟨g3, 2, none⟩ = some (.int .i64 c) := (blk_cell BKg3.out 2).trans rfl; have hfg3_2 := blk_frozen BKg3.out 2; have hcg3_3 : w10.cell? ⟨g3, 3, none⟩ = some (.int .i64 d) := (blk_cell BKg3.out 3).trans rfl; have hfg3_3 := blk_frozen BKg3.out 3; have hcg4_0 : w10.cell? ⟨g4, 0, none⟩ = some (.int .i64 e0) := (blk_cell BKg4.out 0).trans rfl; have hfg4_0 := blk_frozen BKg4.out 0; have hcg4_1 : w10.cell? ⟨g4, 1, none⟩ = some (.int .i64 e1) := (blk_cell BKg4.out 1).trans rfl; have hfg4_1 := blk_frozen BKg4.out 1; have hcg4_2 : w10.cell? ⟨g4, 2, none⟩ = some (.slice Ae le.length ce) := (blk_cell BKg4.out 2).trans rfl; have hfg4_2 := blk_frozen BKg4.out 2; have hcg8_0 : w10.cell? ⟨g8, 0, none⟩ = some (.int .i64 e0) := (blk_cell BKg8.out 0).trans rfl; have hfg8_0 := blk_frozen BKg8.out 0; have hcg8_1 : w10.cell? ⟨g8, 1, none⟩ = some (.int .i64 e1) := (blk_cell BKg8.out 1).trans rfl; have hfg8_1 := blk_frozen BKg8.out 1; have hcg8_2 : w10.cell? ⟨g8, 2, none⟩ = some (.slice x_A le.length x_c) := (blk_cell BKg8.out 2).trans rfl; have hfg8_2 := blk_frozen BKg8.out 2; clear tok8; have tok9 : True := trivial) | (have _ := tok9; go_at_call 17; (with_reducible refine (twoslotref15_Bytes.calls 80000 a b c d e0 e1 Ae ce le B eb _ ?s1 Ahle.out AhB2.out).mono ?_); (case s1 => exact Kd.C_below AhCe.out (by repeat (first | exact HB.out | apply below_alloc | apply pw_below_drewN | apply below_drew1))); rintro e w11 ⟨vb2, rfl, ho, hb⟩; (try clear hcg3_0 hfg3_0); (try clear hcg3_1 hfg3_1); (try clear hcg3_2 hfg3_2); (try clear hcg3_3 hfg3_3); (try clear hcg4_0 hfg4_0); (try clear hcg4_1 hfg4_1); (try clear hcg4_2 hfg4_2); (try clear hcg8_0 hfg8_0); (try clear hcg8_1 hfg8_1); (try clear hcg8_2 hfg8_2); have hs : Below w10.heap.size w10 w11 := below_step (by repeat (first | exact Below.refl _ _ | apply below_alloc | apply pw_below_drewN | apply below_drew1)) hb; have hl : w10.heap.size ≤ _ := below_size (w := w10) (by repeat (first | exact Below.refl _ _ | apply below_alloc | apply pw_below_drewN | apply below_drew1)); have SZ11 := Aside0.mk (show w10.heap.size ≤ w11.heap.size from hs.size); have n_ := Aside0.mk (blk_below BKg3.out hs); clear BKg3; have BKg3 := n_; clear n_; have n_ := Aside0.mk (blk_below BKg4.out hs); clear BKg4; have BKg4 := n_; clear n_; have n_ := Aside0.mk (blk_below BKg8.out hs); clear BKg8; have BKg8 := n_; clear n_; have n_ := Aside0.mk (foot_below HFx.out hs); clear HFx; have HFx := n_; clear n_; have n_ := Aside0.mk (foot_below HFy.out hs); clear HFy; have HFy := n_; clear n_; have n_ := Aside0.mk (Kd.R_below HOb.out hs); clear HOb; have HOb := n_; clear n_; have n_ := Aside0.mk (Kd.R_below HOc.out hs); clear HOc; have HOc := n_; clear n_; have HOb2 := Aside0.mk (R_iv ho (below_size (by repeat (first | exact HB.out | apply below_alloc | apply pw_below_drewN | apply below_drew1))) hl); have n_ := Aside0.mk (below_step HB.out hs); clear HB; have HB := n_; clear n_; clear ho; clear hb hs; (try clear hl); have hcg3_0 : w11.cell? ⟨g3, 0, none⟩ = some (.int .i64 a) := (blk_cell BKg3.out 0).trans rfl; have hfg3_0 := blk_frozen BKg3.out 0; have hcg3_1 : w11.cell? ⟨g3, 1, none⟩ = some (.int .i64 b) := (blk_cell BKg3.out 1).trans rfl; have hfg3_1 := blk_frozen BKg3.out 1; have hcg3_2 : w11.cell? ⟨g3, 2, none⟩ = some (.int .i64 c) := (blk_cell BKg3.out 2).trans rfl; have hfg3_2 := blk_frozen BKg3.out 2; have hcg3_3 : w11.cell? ⟨g3, 3, none⟩ = some (.int .i64 d) := (blk_cell BKg3.out 3).trans rfl; have hfg3_3 := blk_frozen BKg3.out 3; have hcg4_0 : w11.cell? ⟨g4, 0, none⟩ = some (.int .i64 e0) := (blk_cell BKg4.out 0).trans rfl; have hfg4_0 := blk_frozen BKg4.out 0; have hcg4_1 : w11.cell? ⟨g4, 1, none⟩ = some (.int .i64 e1) := (blk_cell BKg4.out 1).trans rfl; have hfg4_1 := blk_frozen BKg4.out 1; have hcg4_2 : w11.cell? ⟨g4, 2, none⟩ = some (.slice Ae le.length ce) := (blk_cell BKg4.out 2).trans rfl; have hfg4_2 := blk_frozen BKg4.out 2; have hcg8_0 : w11.cell? ⟨g8, 0, none⟩ = some (.int .i64 e0) := (blk_cell BKg8.out 0).trans rfl; have hfg8_0 := blk_frozen BKg8.out 0; have hcg8_1 : w11.cell? ⟨g8, 1, none⟩ = some (.int .i64 e1) := (blk_cell BKg8.out 1).trans rfl; have hfg8_1 := blk_frozen BKg8.out 1; have hcg8_2 : w11.cell? ⟨g8, 2, none⟩ = some (.slice x_A le.length x_c) := (blk_cell BKg8.out 2).trans rfl; have hfg8_2 := blk_frozen BKg8.out 2; clear tok9; have tok10 : True := trivial) | (have _ := tok10; go_at_call 18; (with_reducible refine (twoslotref15_Leaf.calls 80000 a b c d Al cl l C ec _ ?s1 Ahll.out AhL2.out).mono ?_); (case s1 => exact Kd.C_below AhCl.out (by repeat (first | exact HB.out | apply below_alloc | apply pw_below_drewN | apply below_drew1))); rintro e w12 ⟨vc2, rfl, ho, hb⟩; (try clear hcg3_0 hfg3_0); (try clear hcg3_1 hfg3_1); (try clear hcg3_2 hfg3_2); (try clear hcg3_3 hfg3_3); (try clear hcg4_0 hfg4_0); (try clear hcg4_1 hfg4_1); (try clear hcg4_2 hfg4_2); (try clear hcg8_0 hfg8_0); (try clear hcg8_1 hfg8_1); (try clear hcg8_2 hfg8_2); have hs : Below w11.heap.size w11 w12 := below_step (by repeat (first | exact Below.refl _ _ | apply below_alloc | apply pw_below_drewN | apply below_drew1)) hb; have hl : w11.heap.size ≤ _ := below_size (w := w11) (by repeat (first | exact Below.refl _ _ | apply below_alloc | apply pw_below_drewN | apply below_drew1)); have SZ12 := Aside0.mk (show w11.heap.size ≤ w12.heap.size from hs.size); have n_ := Aside0.mk (blk_below BKg3.out hs); clear BKg3; have BKg3 := n_; clear n_; have n_ := Aside0.mk (blk_below BKg4.out hs); clear BKg4; have BKg4 := n_; clear n_; have n_ := Aside0.mk (blk_below BKg8.out hs); clear BKg8; have BKg8 := n_; clear n_; have n_ := Aside0.mk (foot_below HFx.out hs); clear HFx; have HFx := n_; clear n_; have n_ := Aside0.mk (foot_below HFy.out hs); clear HFy; have HFy := n_; clear n_; have n_ := Aside0.mk (Kd.R_below HOb.out hs); clear HOb; have HOb := n_; clear n_; have n_ := Aside0.mk (Kd.R_below HOc.out hs); clear HOc; have HOc := n_; clear n_; have n_ := Aside0.mk (Kd.R_below HOb2.out hs); clear HOb2; have HOb2 := n_; clear n_; have HOc2 := Aside0.mk (R_iv ho (below_size (by repeat (first | exact HB.out | apply below_alloc | apply pw_below_drewN | apply below_drew1))) hl); have n_ := Aside0.mk (below_step HB.out hs); clear HB; have HB := n_; clear n_; clear ho; clear hb hs; (try clear hl); have hcg3_0 : w12.cell? ⟨g3, 0, none⟩ = some (.int .i64 a) := (blk_cell BKg3.out 0).trans rfl; have hfg3_0 := blk_frozen BKg3.out 0; have hcg3_1 : w12.cell? ⟨g3, 1, none⟩ = some (.int .i64 b) := (blk_cell BKg3.out 1).trans rfl; have hfg3_1 := blk_frozen BKg3.out 1; have hcg3_2 : w12.cell? ⟨g3, 2, none⟩ = some (.int .i64 c) := (blk_cell BKg3.out 2).trans rfl; have hfg3_2 := blk_frozen BKg3.out 2; have hcg3_3 : w12.cell? ⟨g3, 3, none⟩ = some (.int .i64 d) := (blk_cell BKg3.out 3).trans rfl; have hfg3_3 := blk_frozen BKg3.out 3; have hcg4_0 : w12.cell? ⟨g4, 0, none⟩ = some (.int .i64 e0) := (blk_cell BKg4.out 0).trans rfl; have hfg4_0 := blk_frozen BKg4.out 0; have hcg4_1 : w12.cell? ⟨g4, 1, none⟩ = some (.int .i64 e1) := (blk_cell BKg4.out 1).trans rfl; have hfg4_1 := blk_frozen BKg4.out 1; have hcg4_2 : w12.cell? ⟨g4, 2, none⟩ = some (.slice Ae le.length ce) := (blk_cell BKg4.out 2).trans rfl; have hfg4_2 := blk_frozen BKg4.out 2; have hcg8_0 : w12.cell? ⟨g8, 0, none⟩ = some (.int .i64 e0) := (blk_cell BKg8.out 0).trans rfl; have hfg8_0 := blk_frozen BKg8.out 0; have hcg8_1 : w12.cell? ⟨g8, 1, none⟩ = some (.int .i64 e1) := (blk_cell BKg8.out 1).trans rfl; have hfg8_1 := blk_frozen BKg8.out 1; have hcg8_2 : w12.cell? ⟨g8, 2, none⟩ = some (.slice x_A le.length x_c) := (blk_cell BKg8.out 2).trans rfl; have hfg8_2 := blk_frozen BKg8.out 2; clear tok10))
  (try clear hcg3_0 hfg3_0)
  (try clear hcg3_1 hfg3_1)
  (try clear hcg3_2 hfg3_2)
  (try clear hcg3_3 hfg3_3)
  (try clear hcg4_0 hfg4_0)
  (try clear hcg4_1 hfg4_1)
  (try clear hcg4_2 hfg4_2)
  (try clear hcg8_0 hfg8_0)
  (try clear hcg8_1 hfg8_1)
  (try clear hcg8_2 hfg8_2)
  have hs : Below w12.heap.size w12 (World.drew w12) := below_drew1 (Below.refl _ _)
  have SZ13 := Aside0.mk (show w12.heap.size ≤ (World.drew w12).heap.size from hs.size)
  have n_ := Aside0.mk (blk_below BKg3.out hs)
  clear BKg3
  have BKg3 := n_
  clear n_
  have n_ := Aside0.mk (blk_below BKg4.out hs)
  clear BKg4
  have BKg4 := n_
  clear n_
  have n_ := Aside0.mk (blk_below BKg8.out hs)
  clear BKg8
  have BKg8 := n_
  clear n_
  have n_ := Aside0.mk (foot_below HFx.out hs)
  clear HFx
  have HFx := n_
  clear n_
  have n_ := Aside0.mk (foot_below HFy.out hs)
  clear HFy
  have HFy := n_
  clear n_
  have n_ := Aside0.mk (Kd.R_below HOb.out hs)
  clear HOb
  have HOb := n_
  clear n_
  have n_ := Aside0.mk (Kd.R_below HOc.out hs)
  clear HOc
  have HOc := n_
  clear n_
  have n_ := Aside0.mk (Kd.R_below HOb2.out hs)
  clear HOb2
  have HOb2 := n_
  clear n_
  have n_ := Aside0.mk (Kd.R_below HOc2.out hs)
  clear HOc2
  have HOc2 := n_
  clear n_
  have n_ := Aside0.mk (below_step HB.out hs)
  clear HB
  have HB := n_
  clear n_ hs
  refine start_ (n := 22) (S := fun w' => w'.cell? ⟨g3, 0, none⟩ = some (.int .i64 a) ∧ w'.cell? ⟨g3, 1, none⟩ = some (.int .i64 b) ∧ w'.cell? ⟨g3, 2, none⟩ = some (.int .i64 c) ∧ w'.cell? ⟨g3, 3, none⟩ = some (.int .i64 d) ∧ w'.cell? ⟨g4, 0, none⟩ = some (.int .i64 e0) ∧ w'.cell? ⟨g4, 1, none⟩ = some (.int .i64 e1) ∧ w'.cell? ⟨g4, 2, none⟩ = some (.slice Ae le.length ce) ∧ w'.cell? ⟨g8, 0, none⟩ = some (.int .i64 e0) ∧ w'.cell? ⟨g8, 1, none⟩ = some (.int .i64 e1) ∧ w'.cell? ⟨g8, 2, none⟩ = some (.slice x_A le.length x_c) ∧ Sem.run Try.prog (convert 29 9 vb) w' = .ok (.string (strOfNums B)) w' ∧ Sem.run Try.prog (convert 29 9 vb2) w' = .ok (.string (strOfNums B)) w' ∧ Sem.run Try.prog (convert 29 9 vc) w' = .ok (.string (strOfNums C)) w' ∧ Sem.run Try.prog (convert 29 9 vc2) w' = .ok (.string (strOfNums C)) w') (ds := []) #[false, false, false, false, false, false, false, false, false, false, false, false, false, false, false, false, false, false, false, false, false, false] (by kernel_rfl) rfl rfl ⟨(blk_cell BKg3.out 0).trans rfl, (blk_cell BKg3.out 1).trans rfl, (blk_cell BKg3.out 2).trans rfl, (blk_cell BKg3.out 3).trans rfl, (blk_cell BKg4.out 0).trans rfl, (blk_cell BKg4.out 1).trans rfl, (blk_cell BKg4.out 2).trans rfl, (blk_cell BKg8.out 0).trans rfl, (blk_cell BKg8.out 1).trans rfl, (blk_cell BKg8.out 2).trans rfl, (own_string (P := Try.prog) Try.underlying29 Try.underlying5 Try.underlying9 (Kd.own_of_R HOb.out)), (own_string (P := Try.prog) Try.underlying29 Try.underlying5 Try.underlying9 (Kd.own_of_R HOb2.out)), (own_string (P := Try.prog) Try.underlying29 Try.underlying5 Try.underlying9 (Kd.own_of_R HOc.out)), (own_string (P := Try.prog) Try.underlying29 Try.underlying5 Try.underlying9 (Kd.own_of_R HOc2.out))⟩ (fun hHeld => ?_)
  generalize World.drew w12 = w13 at HB BKg3 BKg4 BKg8 HFx HFy HOb HOc HOb2 HOc2 SZ13 hHeld ⊢
  refine pure_ (i := 0) (N := some 64) (v := ?_) (a' := ?_) #[true, false, false, false, false, false, false, false, false, false, false, false, false, false, false, false, false, false, false, false, false, false] rfl rfl (by kernel_rfl) (fun _ _ _ h => h) (Or.inl ⟨by rfl, ?_⟩) ?_ ?_
  rotate_left
  · intro w'
    go_simp
    with_reducible rfl
  rotate_left
  · simp only [Act.put, List.setIfInBounds_toArray, List.set_cons_zero, List.set_cons_succ, i64_w, i32_w]
    rfl
  refine pure_ (i := 2) (N := some 66) (v := ?_) (a' := ?_) #[true, false, true, false, false, false, false, false, false, false, false, false, false, false, false, false, false, false, false, false, false, false] rfl rfl (by kernel_rfl) (fun _ _ _ h => h) (Or.inl ⟨by rfl, ?_⟩) ?_ ?_
  rotate_left
  · intro w'
    go_simp
    with_reducible rfl
  rotate_left
  · simp only [Act.put, List.setIfInBounds_toArray, List.set_cons_zero, List.set_cons_succ, i64_w, i32_w]
    rfl
  refine take_ (i := 1) (N := some 65) (v := ?_) (a' := ?_) #[true, true, true, false, false, false, false, false, false, false, false, false, false, false, false, false, false, false, false, false, false, false] rfl rfl (by kernel_rfl) (fun _ _ _ h => h) (Or.inl ⟨by rfl, ?_⟩) hHeld ?_ ?_
  rotate_left
  · rintro w' ⟨s0, s1, s2, s3, s4, s5, s6, s7, s8, s9, s10, s11, s12, s13⟩
    go_simp
    with_reducible rfl
  rotate_left
  · simp only [Act.put, List.setIfInBounds_toArray, List.set_cons_zero, List.set_cons_succ, i64_w, i32_w]
    rfl
  refine take_ (i := 3) (N := some 67) (v := ?_) (a' := ?_) #[true, true, true, true, false, false, false, false, false, false, false, false, false, false, false, false, false, false, false, false, false, false] rfl rfl (by kernel_rfl) (fun _ _ _ h => h) (Or.inl ⟨by rfl, ?_⟩) hHeld ?_ ?_
  rotate_left
  · rintro w' ⟨s0, s1, s2, s3, s4, s5, s6, s7, s8, s9, s10, s11, s12, s13⟩
    go_simp
    with_reducible rfl
  rotate_left
  · simp only [Act.put, List.setIfInBounds_toArray, List.set_cons_zero, List.set_cons_succ, i64_w, i32_w]
    rfl
  refine pure_ (i := 4) (N := some 68) (v := ?_) (a' := ?_) #[true, true, true, true, true, false, false, false, false, false, false, false, false, false, false, false, false, false, false, false, false, false] rfl rfl (by kernel_rfl) (fun _ _ _ h => h) (Or.inl ⟨by rfl, ?_⟩) ?_ ?_
  rotate_left
  · intro w'
    go_simp
    with_reducible rfl
  rotate_left
  · simp only [Act.put, List.setIfInBounds_toArray, List.set_cons_zero, List.set_cons_succ, i64_w, i32_w]
    rfl
  refine pure_ (i := 5) (N := some 69) (v := ?_) (a' := ?_) #[true, true, true, true, true, true, false, false, false, false, false, false, false, false, false, false, false, false, false, false, false, false] rfl rfl (by kernel_rfl) (fun _ _ _ h => h) (Or.inl ⟨by rfl, ?_⟩) ?_ ?_
  rotate_left
  · intro w'
    go_simp
    with_reducible rfl
  rotate_left
  · simp only [Act.put, List.setIfInBounds_toArray, List.set_cons_zero, List.set_cons_succ, i64_w, i32_w]
    rfl
  refine pure_ (i := 6) (N := some 70) (v := ?_) (a' := ?_) #[true, true, true, true, true, true, true, false, false, false, false, false, false, false, false, false, false, false, false, false, false, false] rfl rfl (by kernel_rfl) (fun _ _ _ h => h) (Or.inl ⟨by rfl, ?_⟩) ?_ ?_
  rotate_left
  · intro w'
    go_simp
    with_reducible rfl
  rotate_left
  · simp only [Act.put, List.setIfInBounds_toArray, List.set_cons_zero, List.set_cons_succ, i64_w, i32_w]
    rfl
  refine pure_ (i := 8) (N := some 72) (v := ?_) (a' := ?_) #[true, true, true, true, true, true, true, false, true, false, false, false, false, false, false, false, false, false, false, false, false, false] rfl rfl (by kernel_rfl) (fun _ _ _ h => h) (Or.inl ⟨by rfl, ?_⟩) ?_ ?_
  rotate_left
  · intro w'
    go_simp
    with_reducible rfl
  rotate_left
  · simp only [Act.put, List.setIfInBounds_toArray, List.set_cons_zero, List.set_cons_succ, i64_w, i32_w]
    rfl
  refine take_ (i := 7) (N := some 71) (v := ?_) (a' := ?_) #[true, true, true, true, true, true, true, true, true, false, false, false, false, false, false, false, false, false, false, false, false, false] rfl rfl (by kernel_rfl) (fun _ _ _ h => h) (Or.inl ⟨by rfl, ?_⟩) hHeld ?_ ?_
  rotate_left
  · rintro w' ⟨s0, s1, s2, s3, s4, s5, s6, s7, s8, s9, s10, s11, s12, s13⟩
    go_simp
    with_reducible rfl
  rotate_left
  · simp only [Act.put, List.setIfInBounds_toArray, List.set_cons_zero, List.set_cons_succ, i64_w, i32_w]
    rfl
  refine take_ (i := 9) (N := some 73) (v := ?_) (a' := ?_) #[true, true, true, true, true, true, true, true, true, true, false, false, false, false, false, false, false, false, false, false, false, false] rfl rfl (by kernel_rfl) (fun _ _ _ h => h) (Or.inl ⟨by rfl, ?_⟩) hHeld ?_ ?_
  rotate_left
  · rintro w' ⟨s0, s1, s2, s3, s4, s5, s6, s7, s8, s9, s10, s11, s12, s13⟩
    go_simp
    with_reducible rfl
  rotate_left
  · simp only [Act.put, List.setIfInBounds_toArray, List.set_cons_zero, List.set_cons_succ, i64_w, i32_w]
    rfl
  refine pure_ (i := 10) (N := some 74) (v := ?_) (a' := ?_) #[true, true, true, true, true, true, true, true, true, true, true, false, false, false, false, false, false, false, false, false, false, false] rfl rfl (by kernel_rfl) (fun _ _ _ h => h) (Or.inl ⟨by rfl, ?_⟩) ?_ ?_
  rotate_left
  · intro w'
    go_simp
    with_reducible rfl
  rotate_left
  · simp only [Act.put, List.setIfInBounds_toArray, List.set_cons_zero, List.set_cons_succ, i64_w, i32_w]
    rfl
  refine pure_ (i := 11) (N := some 75) (v := ?_) (a' := ?_) #[true, true, true, true, true, true, true, true, true, true, true, true, false, false, false, false, false, false, false, false, false, false] rfl rfl (by kernel_rfl) (fun _ _ _ h => h) (Or.inl ⟨by rfl, ?_⟩) ?_ ?_
  rotate_left
  · intro w'
    go_simp
    with_reducible rfl
  rotate_left
  · simp only [Act.put, List.setIfInBounds_toArray, List.set_cons_zero, List.set_cons_succ, i64_w, i32_w]
    rfl
  refine pure_ (i := 12) (N := some 76) (v := ?_) (a' := ?_) #[true, true, true, true, true, true, true, true, true, true, true, true, true, false, false, false, false, false, false, false, false, false] rfl rfl (by kernel_rfl) (fun _ _ _ h => h) (Or.inl ⟨by rfl, ?_⟩) ?_ ?_
  rotate_left
  · intro w'
    go_simp
    with_reducible rfl
  rotate_left
  · simp only [Act.put, List.setIfInBounds_toArray, List.set_cons_zero, List.set_cons_succ, i64_w, i32_w]
    rfl
  refine take_ (i := 13) (N := some 77) (v := ?_) (a' := ?_) #[true, true, true, true, true, true, true, true, true, true, true, true, true, true, false, false, false, false, false, false, false, false] rfl rfl (by kernel_rfl) (fun _ _ _ h => h) (Or.inl ⟨by rfl, ?_⟩) hHeld ?_ ?_
  rotate_left
  · rintro w' ⟨s0, s1, s2, s3, s4, s5, s6, s7, s8, s9, s10, s11, s12, s13⟩
    go_simp
    with_reducible rfl
  rotate_left
  · simp only [Act.put, List.setIfInBounds_toArray, List.set_cons_zero, List.set_cons_succ, i64_w, i32_w]
    rfl
  refine take_ (i := 14) (N := some 78) (v := ?_) (a' := ?_) #[true, true, true, true, true, true, true, true, true, true, true, true, true, true, true, false, false, false, false, false, false, false] rfl rfl (by kernel_rfl) (fun _ _ _ h => h) (Or.inl ⟨by rfl, ?_⟩) hHeld ?_ ?_
  rotate_left
  · rintro w' ⟨s0, s1, s2, s3, s4, s5, s6, s7, s8, s9, s10, s11, s12, s13⟩
    go_simp
    with_reducible rfl
  rotate_left
  · simp only [Act.put, List.setIfInBounds_toArray, List.set_cons_zero, List.set_cons_succ, i64_w, i32_w]
    rfl
  refine take_ (i := 16) (N := some 80) (v := ?_) (a' := ?_) #[true, true, true, true, true, true, true, true, true, true, true, true, true, true, true, false, true, false, false, false, false, false] rfl rfl (by kernel_rfl) (fun _ _ _ h => h) (Or.inl ⟨by rfl, ?_⟩) hHeld ?_ ?_
  rotate_left
  · rintro w' ⟨s0, s1, s2, s3, s4, s5, s6, s7, s8, s9, s10, s11, s12, s13⟩
    go_simp
    with_reducible rfl
  rotate_left
  · simp only [Act.put, List.setIfInBounds_toArray, List.set_cons_zero, List.set_cons_succ, i64_w, i32_w]
    rfl
  refine take_ (i := 17) (N := some 81) (v := ?_) (a' := ?_) #[true, true, true, true, true, true, true, true, true, true, true, true, true, true, true, false, true, true, false, false, false, false] rfl rfl (by kernel_rfl) (fun _ _ _ h => h) (Or.inl ⟨by rfl, ?_⟩) hHeld ?_ ?_
  rotate_left
  · rintro w' ⟨s0, s1, s2, s3, s4, s5, s6, s7, s8, s9, s10, s11, s12, s13⟩
    go_simp
    with_reducible rfl
  rotate_left
  · simp only [Act.put, List.setIfInBounds_toArray, List.set_cons_zero, List.set_cons_succ, i64_w, i32_w]
    rfl
  refine one_ (i := 15) (N := some 79) #[true, true, true, true, true, true, true, true, true, true, true, true, true, true, true, true, true, true, false, false, false, false] rfl rfl (by kernel_rfl) (by decide) (fun K hK => ?_)
  refine goes_ Try.func12 (by kernel_rfl) rfl #[.agg #[.int .i64 a, .int .i64 b, .int .i64 c, .int .i64 d], .agg #[.int .i64 e0, .int .i64 e1, .slice x_A le.length x_c]] (by rfl) rfl rfl (by simp only [List.map_toArray, List.map_cons, List.map_nil]; rfl) ?_
  with_reducible refine (desc_Check.calls 80000 a b c d e0 e1 x_A x_c le q _ ?s1 (by have := HCx.out; omega) AhK.out).mono ?_
  (case s1 => exact marked_take (foot_now (HFx.out) (by repeat (first | exact Below.refl _ _ | apply below_alloc | apply pw_below_drewN | apply below_drew1))))
  rintro e w14 ⟨rfl, hb⟩
  refine ⟨_, rfl, ?_⟩
  have hs : Below w13.heap.size w13 w14 := below_step (by repeat (first | exact Below.refl _ _ | apply below_alloc | apply pw_below_drewN | apply below_drew1)) hb
  have hl : w13.heap.size ≤ _ := below_size (w := w13) (by repeat (first | exact Below.refl _ _ | apply below_alloc | apply pw_below_drewN | apply below_drew1))
  have SZ14 := Aside0.mk (show w13.heap.size ≤ w14.heap.size from hs.size)
  have n_ := Aside0.mk (blk_below BKg3.out hs)
  clear BKg3
  have BKg3 := n_
  clear n_
  have n_ := Aside0.mk (blk_below BKg4.out hs)
  clear BKg4
  have BKg4 := n_
  clear n_
  have n_ := Aside0.mk (blk_below BKg8.out hs)
  clear BKg8
  have BKg8 := n_
  clear n_
  have n_ := Aside0.mk (foot_below HFx.out hs)
  clear HFx
  have HFx := n_
  clear n_
  have n_ := Aside0.mk (foot_below HFy.out hs)
  clear HFy
  have HFy := n_
  clear n_
  have n_ := Aside0.mk (Kd.R_below HOb.out hs)
  clear HOb
  have HOb := n_
  clear n_
  have n_ := Aside0.mk (Kd.R_below HOc.out hs)
  clear HOc
  have HOc := n_
  clear n_
  have n_ := Aside0.mk (Kd.R_below HOb2.out hs)
  clear HOb2
  have HOb2 := n_
  clear n_
  have n_ := Aside0.mk (Kd.R_below HOc2.out hs)
  clear HOc2
  have HOc2 := n_
  clear n_
  have n_ := Aside0.mk (below_step HB.out hs)
  clear HB
  have HB := n_
  clear n_ hs hb
  (try clear hl)
  refine hK.out _ _ ⟨(blk_cell BKg3.out 0).trans rfl, (blk_cell BKg3.out 1).trans rfl, (blk_cell BKg3.out 2).trans rfl, (blk_cell BKg3.out 3).trans rfl, (blk_cell BKg4.out 0).trans rfl, (blk_cell BKg4.out 1).trans rfl, (blk_cell BKg4.out 2).trans rfl, (blk_cell BKg8.out 0).trans rfl, (blk_cell BKg8.out 1).trans rfl, (blk_cell BKg8.out 2).trans rfl, (own_string (P := Try.prog) Try.underlying29 Try.underlying5 Try.underlying9 (Kd.own_of_R HOb.out)), (own_string (P := Try.prog) Try.underlying29 Try.underlying5 Try.underlying9 (Kd.own_of_R HOb2.out)), (own_string (P := Try.prog) Try.underlying29 Try.underlying5 Try.underlying9 (Kd.own_of_R HOc.out)), (own_string (P := Try.prog) Try.underlying29 Try.underlying5 Try.underlying9 (Kd.own_of_R HOc2.out))⟩ (fun hHeld => ?_)
  clear hK K
  refine norm_ (a' := ?_) ?_ ?_
  rotate_left
  · show Act.put _ (some 79) _ = _
    simp only [Act.put, List.setIfInBounds_toArray, List.set_cons_zero, List.set_cons_succ, i64_w, i32_w]
    rfl
  refine one_ (i := 18) (N := some 82) #[true, true, true, true, true, true, true, true, true, true, true, true, true, true, true, true, true, true, true, false, false, false] rfl rfl (by kernel_rfl) (by decide) (fun K hK => ?_)
  refine goes_ Try.func19 (by kernel_rfl) rfl #[.agg #[.int .i64 a, .int .i64 b, .int .i64 c, .int .i64 d], .agg #[.int .i64 e0, .int .i64 e1, .slice Ae le.length ce]] (by rfl) rfl rfl (by simp only [List.map_toArray, List.map_cons, List.map_nil]; rfl) ?_
  with_reducible refine (twoslotref15_Check.calls 80000 a b c d e0 e1 Ae ce le q _ ?s1 Ahle.out AhK2.out).mono ?_
  (case s1 => exact Kd.C_below AhCe.out (by repeat (first | exact HB.out | apply below_alloc | apply pw_below_drewN | apply below_drew1)))
  rintro e w15 ⟨rfl, hb⟩
  refine ⟨_, rfl, ?_⟩
  have hs : Below w14.heap.size w14 w15 := below_step (by repeat (first | exact Below.refl _ _ | apply below_alloc | apply pw_below_drewN | apply below_drew1)) hb
  have hl : w14.heap.size ≤ _ := below_size (w := w14) (by repeat (first | exact Below.refl _ _ | apply below_alloc | apply pw_below_drewN | apply below_drew1))
  have SZ15 := Aside0.mk (show w14.heap.size ≤ w15.heap.size from hs.size)
  have n_ := Aside0.mk (blk_below BKg3.out hs)
  clear BKg3
  have BKg3 := n_
  clear n_
  have n_ := Aside0.mk (blk_below BKg4.out hs)
  clear BKg4
  have BKg4 := n_
  clear n_
  have n_ := Aside0.mk (blk_below BKg8.out hs)
  clear BKg8
  have BKg8 := n_
  clear n_
  have n_ := Aside0.mk (foot_below HFx.out hs)
  clear HFx
  have HFx := n_
  clear n_
  have n_ := Aside0.mk (foot_below HFy.out hs)
  clear HFy
  have HFy := n_
  clear n_
  have n_ := Aside0.mk (Kd.R_below HOb.out hs)
  clear HOb
  have HOb := n_
  clear n_
  have n_ := Aside0.mk (Kd.R_below HOc.out hs)
  clear HOc
  have HOc := n_
  clear n_
  have n_ := Aside0.mk (Kd.R_below HOb2.out hs)
  clear HOb2
  have HOb2 := n_
  clear n_
  have n_ := Aside0.mk (Kd.R_below HOc2.out hs)
  clear HOc2
  have HOc2 := n_
  clear n_
  have n_ := Aside0.mk (below_step HB.out hs)
  clear HB
  have HB := n_
  clear n_ hs hb
  (try clear hl)
  refine hK.out _ _ ⟨(blk_cell BKg3.out 0).trans rfl, (blk_cell BKg3.out 1).trans rfl, (blk_cell BKg3.out 2).trans rfl, (blk_cell BKg3.out 3).trans rfl, (blk_cell BKg4.out 0).trans rfl, (blk_cell BKg4.out 1).trans rfl, (blk_cell BKg4.out 2).trans rfl, (blk_cell BKg8.out 0).trans rfl, (blk_cell BKg8.out 1).trans rfl, (blk_cell BKg8.out 2).trans rfl, (own_string (P := Try.prog) Try.underlying29 Try.underlying5 Try.underlying9 (Kd.own_of_R HOb.out)), (own_string (P := Try.prog) Try.underlying29 Try.underlying5 Try.underlying9 (Kd.own_of_R HOb2.out)), (own_string (P := Try.prog) Try.underlying29 Try.underlying5 Try.underlying9 (Kd.own_of_R HOc.out)), (own_string (P := Try.prog) Try.underlying29 Try.underlying5 Try.underlying9 (Kd.own_of_R HOc2.out))⟩ (fun hHeld => ?_)
  clear hK K
  refine norm_ (a' := ?_) ?_ ?_
  rotate_left
  · show Act.put _ (some 82) _ = _
    simp only [Act.put, List.setIfInBounds_toArray, List.set_cons_zero, List.set_cons_succ, i64_w, i32_w]
    rfl
  refine pure_ (i := 19) (N := some 83) (v := ?_) (a' := ?_) #[true, true, true, true, true, true, true, true, true, true, true, true, true, true, true, true, true, true, true, true, false, false] rfl rfl (by kernel_rfl) (fun _ _ _ h => h) (Or.inl ⟨by rfl, ?_⟩) ?_ ?_
  rotate_left
  · intro w'
    go_simp
    with_reducible rfl
  rotate_left
  · simp only [Act.put, List.setIfInBounds_toArray, List.set_cons_zero, List.set_cons_succ, i64_w, i32_w]
    rfl
  refine pure_ (i := 20) (N := some 84) (v := ?_) (a' := ?_) #[true, true, true, true, true, true, true, true, true, true, true, true, true, true, true, true, true, true, true, true, true, false] rfl rfl (by kernel_rfl) (fun _ _ _ h => h) (Or.inl ⟨by rfl, ?_⟩) ?_ ?_
  rotate_left
  · intro w'
    go_simp
    with_reducible rfl
  rotate_left
  · simp only [Act.put, List.setIfInBounds_toArray, List.set_cons_zero, List.set_cons_succ, i64_w, i32_w]
    rfl
  refine pure_ (i := 21) (N := some 18) (v := ?_) (a' := ?_) #[true, true, true, true, true, true, true, true, true, true, true, true, true, true, true, true, true, true, true, true, true, true] rfl rfl (by kernel_rfl) (fun _ _ _ h => h) (Or.inl ⟨by rfl, ?_⟩) ?_ ?_
  rotate_left
  · intro w'
    go_simp
    with_reducible rfl
  rotate_left
  · simp only [Act.put, List.setIfInBounds_toArray, List.set_cons_zero, List.set_cons_succ, i64_w, i32_w]
    rfl
  refine done_ (by kernel_rfl) ?_
  have hcg3_0 : w15.cell? ⟨g3, 0, none⟩ = some (.int .i64 a) := (blk_cell BKg3.out 0).trans rfl
  have hfg3_0 := blk_frozen BKg3.out 0
  have hcg3_1 : w15.cell? ⟨g3, 1, none⟩ = some (.int .i64 b) := (blk_cell BKg3.out 1).trans rfl
  have hfg3_1 := blk_frozen BKg3.out 1
  have hcg3_2 : w15.cell? ⟨g3, 2, none⟩ = some (.int .i64 c) := (blk_cell BKg3.out 2).trans rfl
  have hfg3_2 := blk_frozen BKg3.out 2
  have hcg3_3 : w15.cell? ⟨g3, 3, none⟩ = some (.int .i64 d) := (blk_cell BKg3.out 3).trans rfl
  have hfg3_3 := blk_frozen BKg3.out 3
  have hcg4_0 : w15.cell? ⟨g4, 0, none⟩ = some (.int .i64 e0) := (blk_cell BKg4.out 0).trans rfl
  have hfg4_0 := blk_frozen BKg4.out 0
  have hcg4_1 : w15.cell? ⟨g4, 1, none⟩ = some (.int .i64 e1) := (blk_cell BKg4.out 1).trans rfl
  have hfg4_1 := blk_frozen BKg4.out 1
  have hcg4_2 : w15.cell? ⟨g4, 2, none⟩ = some (.slice Ae le.length ce) := (blk_cell BKg4.out 2).trans rfl
  have hfg4_2 := blk_frozen BKg4.out 2
  have hcg8_0 : w15.cell? ⟨g8, 0, none⟩ = some (.int .i64 e0) := (blk_cell BKg8.out 0).trans rfl
  have hfg8_0 := blk_frozen BKg8.out 0
  have hcg8_1 : w15.cell? ⟨g8, 1, none⟩ = some (.int .i64 e1) := (blk_cell BKg8.out 1).trans rfl
  have hfg8_1 := blk_frozen BKg8.out 1
  have hcg8_2 : w15.cell? ⟨g8, 2, none⟩ = some (.slice x_A le.length x_c) := (blk_cell BKg8.out 2).trans rfl
  have hfg8_2 := blk_frozen BKg8.out 2
  have tok11 : True := trivial
  go_wp2_with (first | (have _ := tok11; go_at_call 20; (with_reducible refine (twoslotlaw15_spoil.calls 80000 (Iv w8.heap.size w9.heap.size) vb B B' w _ (by repeat (first | exact HB.out | apply below_alloc | apply pw_below_drewN | apply below_drew1)) (Kd.R_below HOb.out (by repeat (first | exact Below.refl _ _ | apply below_alloc | apply pw_below_drewN | apply below_drew1))) AhS1.out).mono ?_); rintro e w16 ⟨rfl, ho, hb, hk⟩; (try clear hcg3_0 hfg3_0); (try clear hcg3_1 hfg3_1); (try clear hcg3_2 hfg3_2); (try clear hcg3_3 hfg3_3); (try clear hcg4_0 hfg4_0); (try clear hcg4_1 hfg4_1); (try clear hcg4_2 hfg4_2); (try clear hcg8_0 hfg8_0); (try clear hcg8_1 hfg8_1); (try clear hcg8_2 hfg8_2); have hs : Kept w15 w16 (Iv w8.heap.size w9.heap.size) := kept_step (by repeat (first | exact Below.refl _ _ | apply below_alloc | apply pw_below_drewN | apply below_drew1)) hk; have SZ16 := Aside0.mk (show w15.heap.size ≤ w16.heap.size from hs.1); have n_ := Aside0.mk (blk_kept BKg3.out hs (Iv_out (by have := SZ1.out; have := SZ2.out; have := SZ3.out; have := SZ4.out; have := SZ5.out; have := SZ6.out; have := SZ7.out; have := SZ8.out; have := SZ9.out; have := SZ10.out; have := SZ11.out; have := SZ12.out; have := SZ13.out; have := SZ14.out; have := SZ15.out; omega))); clear BKg3; have BKg3 := n_; clear n_; have n_ := Aside0.mk (blk_kept BKg4.out hs (Iv_out (by have := SZ1.out; have := SZ2.out; have := SZ3.out; have := SZ4.out; have := SZ5.out; have := SZ6.out; have := SZ7.out; have := SZ8.out; have := SZ9.out; have := SZ10.out; have := SZ11.out; have := SZ12.out; have := SZ13.out; have := SZ14.out; have := SZ15.out; omega))); clear BKg4; have BKg4 := n_; clear n_; have n_ := Aside0.mk (blk_kept BKg8.out hs (Iv_out (by have := SZ1.out; have := SZ2.out; have := SZ3.out; have := SZ4.out; have := SZ5.out; have := SZ6.out; have := SZ7.out; have := SZ8.out; have := SZ9.out; have := SZ10.out; have := SZ11.out; have := SZ12.out; have := SZ13.out; have := SZ14.out; have := SZ15.out; omega))); clear BKg8; have BKg8 := n_; clear n_; have n_ := Aside0.mk (foot_kept HFx.out hs (Iv_apart (by have := SZ1.out; have := SZ2.out; have := SZ3.out; have := SZ4.out; have := SZ5.out; have := SZ6.out; have := SZ7.out; have := SZ8.out; have := SZ9.out; have := SZ10.out; have := SZ11.out; have := SZ12.out; have := SZ13.out; have := SZ14.out; have := SZ15.out; omega))); clear HFx; have HFx := n_; clear n_; have n_ := Aside0.mk (foot_kept HFy.out hs (Iv_apart (by have := SZ1.out; have := SZ2.out; have := SZ3.out; have := SZ4.out; have := SZ5.out; have := SZ6.out; have := SZ7.out; have := SZ8.out; have := SZ9.out; have := SZ10.out; have := SZ11.out; have := SZ12.out; have := SZ13.out; have := SZ14.out; have := SZ15.out; omega))); clear HFy; have HFy := n_; clear n_; have n_ := Aside0.mk (Kd.R_kept HOc.out hs (Iv_apart (by have := SZ1.out; have := SZ2.out; have := SZ3.out; have := SZ4.out; have := SZ5.out; have := SZ6.out; have := SZ7.out; have := SZ8.out; have := SZ9.out; have := SZ10.out; have := SZ11.out; have := SZ12.out; have := SZ13.out; have := SZ14.out; have := SZ15.out; omega))); clear HOc; have HOc := n_; clear n_; have n_ := Aside0.mk (Kd.R_kept HOb2.out hs (Iv_apart (by have := SZ1.out; have := SZ2.out; have := SZ3.out; have := SZ4.out; have := SZ5.out; have := SZ6.out; have := SZ7.out; have := SZ8.out; have := SZ9.out; have := SZ10.out; have := SZ11.out; have := SZ12.out; have := SZ13.out; have := SZ14.out; have := SZ15.out; omega))); clear HOb2; have HOb2 := n_; clear n_; have n_ := Aside0.mk (Kd.R_kept HOc2.out hs (Iv_apart (by have := SZ1.out; have := SZ2.out; have := SZ3.out; have := SZ4.out; have := SZ5.out; have := SZ6.out; have := SZ7.out; have := SZ8.out; have := SZ9.out; have := SZ10.out; have := SZ11.out; have := SZ12.out; have := SZ13.out; have := SZ14.out; have := SZ15.out; omega))); clear HOc2; have HOc2 := n_; clear n_; clear HOb; clear HB; have HB := Aside0.mk hb; clear hb hk hs; have hcg3_0 : w16.cell? ⟨g3, 0, none⟩ = some (.int .i64 a) := (blk_cell BKg3.out 0).trans rfl; have hfg3_0 := blk_frozen BKg3.out 0; have hcg3_1 : w16.cell? ⟨g3, 1, none⟩ = some (.int .i64 b) := (blk_cell BKg3.out 1).trans rfl; have hfg3_1 := blk_frozen BKg3.out 1; have hcg3_2 : w16.cell? ⟨g3, 2, none⟩ = some (.int .i64 c) := (blk_cell BKg3.out 2).trans rfl; have hfg3_2 := blk_frozen BKg3.out 2; have hcg3_3 : w16.cell? ⟨g3, 3, none⟩ = some (.int .i64 d) := (blk_cell BKg3.out 3).trans rfl; have hfg3_3 := blk_frozen BKg3.out 3; have hcg4_0 : w16.cell? ⟨g4, 0, none⟩ = some (.int .i64 e0) := (blk_cell BKg4.out 0).trans rfl; have hfg4_0 := blk_frozen BKg4.out 0; have hcg4_1 : w16.cell? ⟨g4, 1, none⟩ = some (.int .i64 e1) := (blk_cell BKg4.out 1).trans rfl; have hfg4_1 := blk_frozen BKg4.out 1; have hcg4_2 : w16.cell? ⟨g4, 2, none⟩ = some (.slice Ae le.length ce) := (blk_cell BKg4.out 2).trans rfl; have hfg4_2 := blk_frozen BKg4.out 2; have hcg8_0 : w16.cell? ⟨g8, 0, none⟩ = some (.int .i64 e0) := (blk_cell BKg8.out 0).trans rfl; have hfg8_0 := blk_frozen BKg8.out 0; have hcg8_1 : w16.cell? ⟨g8, 1, none⟩ = some (.int .i64 e1) := (blk_cell BKg8.out 1).trans rfl; have hfg8_1 := blk_frozen BKg8.out 1; have hcg8_2 : w16.cell? ⟨g8, 2, none⟩ = some (.slice x_A le.length x_c) := (blk_cell BKg8.out 2).trans rfl; have hfg8_2 := blk_frozen BKg8.out 2; clear tok11; have tok12 : True := trivial) | (have _ := tok12; go_at_call 20; (with_reducible refine (twoslotlaw15_spoil.calls 80000 (Iv w9.heap.size w10.heap.size) vc C C' w _ (by repeat (first | exact HB.out | apply below_alloc | apply pw_below_drewN | apply below_drew1)) (Kd.R_below HOc.out (by repeat (first | exact Below.refl _ _ | apply below_alloc | apply pw_below_drewN | apply below_drew1))) AhS2.out).mono ?_); rintro e w17 ⟨rfl, ho, hb, hk⟩; (try clear hcg3_0 hfg3_0); (try clear hcg3_1 hfg3_1); (try clear hcg3_2 hfg3_2); (try clear hcg3_3 hfg3_3); (try clear hcg4_0 hfg4_0); (try clear hcg4_1 hfg4_1); (try clear hcg4_2 hfg4_2); (try clear hcg8_0 hfg8_0); (try clear hcg8_1 hfg8_1); (try clear hcg8_2 hfg8_2); have hs : Kept w16 w17 (Iv w9.heap.size w10.heap.size) := kept_step (by repeat (first | exact Below.refl _ _ | apply below_alloc | apply pw_below_drewN | apply below_drew1)) hk; have SZ17 := Aside0.mk (show w16.heap.size ≤ w17.heap.size from hs.1); have n_ := Aside0.mk (blk_kept BKg3.out hs (Iv_out (by have := SZ1.out; have := SZ2.out; have := SZ3.out; have := SZ4.out; have := SZ5.out; have := SZ6.out; have := SZ7.out; have := SZ8.out; have := SZ9.out; have := SZ10.out; have := SZ11.out; have := SZ12.out; have := SZ13.out; have := SZ14.out; have := SZ15.out; have := SZ16.out; omega))); clear BKg3; have BKg3 := n_; clear n_; have n_ := Aside0.mk (blk_kept BKg4.out hs (Iv_out (by have := SZ1.out; have := SZ2.out; have := SZ3.out; have := SZ4.out; have := SZ5.out; have := SZ6.out; have := SZ7.out; have := SZ8.out; have := SZ9.out; have := SZ10.out; have := SZ11.out; have := SZ12.out; have := SZ13.out; have := SZ14.out; have := SZ15.out; have := SZ16.out; omega))); clear BKg4; have BKg4 := n_; clear n_; have n_ := Aside0.mk (blk_kept BKg8.out hs (Iv_out (by have := SZ1.out; have := SZ2.out; have := SZ3.out; have := SZ4.out; have := SZ5.out; have := SZ6.out; have := SZ7.out; have := SZ8.out; have := SZ9.out; have := SZ10.out; have := SZ11.out; have := SZ12.out; have := SZ13.out; have := SZ14.out; have := SZ15.out; have := SZ16.out; omega))); clear BKg8; have BKg8 := n_; clear n_; have n_ := Aside0.mk (foot_kept HFx.out hs (Iv_apart (by have := SZ1.out; have := SZ2.out; have := SZ3.out; have := SZ4.out; have := SZ5.out; have := SZ6.out; have := SZ7.out; have := SZ8.out; have := SZ9.out; have := SZ10.out; have := SZ11.out; have := SZ12.out; have := SZ13.out; have := SZ14.out; have := SZ15.out; have := SZ16.out; omega))); clear HFx; have HFx := n_; clear n_; have n_ := Aside0.mk (foot_kept HFy.out hs (Iv_apart (by have := SZ1.out; have := SZ2.out; have := SZ3.out; have := SZ4.out; have := SZ5.out; have := SZ6.out; have := SZ7.out; have := SZ8.out; have := SZ9.out; have := SZ10.out; have := SZ11.out; have := SZ12.out; have := SZ13.out; have := SZ14.out; have := SZ15.out; have := SZ16.out; omega))); clear HFy; have HFy := n_; clear n_; have n_ := Aside0.mk (Kd.R_kept HOb2.out hs (Iv_apart (by have := SZ1.out; have := SZ2.out; have := SZ3.out; have := SZ4.out; have := SZ5.out; have := SZ6.out; have := SZ7.out; have := SZ8.out; have := SZ9.out; have := SZ10.out; have := SZ11.out; have := SZ12.out; have := SZ13.out; have := SZ14.out; have := SZ15.out; have := SZ16.out; omega))); clear HOb2; have HOb2 := n_; clear n_; have n_ := Aside0.mk (Kd.R_kept HOc2.out hs (Iv_apart (by have := SZ1.out; have := SZ2.out; have := SZ3.out; have := SZ4.out; have := SZ5.out; have := SZ6.out; have := SZ7.out; have := SZ8.out; have := SZ9.out; have := SZ10.out; have := SZ11.out; have := SZ12.out; have := SZ13.out; have := SZ14.out; have := SZ15.out; have := SZ16.out; omega))); clear HOc2; have HOc2 := n_; clear n_; clear HOc; clear HB; have HB := Aside0.mk hb; clear hb hk hs; have hcg3_0 : w17.cell? ⟨g3, 0, none⟩ = some (.int .i64 a) := (blk_cell BKg3.out 0).trans rfl; have hfg3_0 := blk_frozen BKg3.out 0; have hcg3_1 : w17.cell? ⟨g3, 1, none⟩ = some (.int .i64 b) := (blk_cell BKg3.out 1).trans rfl; have hfg3_1 := blk_frozen BKg3.out 1; have hcg3_2 : w17.cell? ⟨g3, 2, none⟩ = some (.int .i64 c) := (blk_cell BKg3.out 2).trans rfl; have hfg3_2 := blk_frozen BKg3.out 2; have hcg3_3 : w17.cell? ⟨g3, 3, none⟩ = some (.int .i64 d) := (blk_cell BKg3.out 3).trans rfl; have hfg3_3 := blk_frozen BKg3.out 3; have hcg4_0 : w17.cell? ⟨g4, 0, none⟩ = some (.int .i64 e0) := (blk_cell BKg4.out 0).trans rfl; have hfg4_0 := blk_frozen BKg4.out 0; have hcg4_1 : w17.cell? ⟨g4, 1, none⟩ = some (.int .i64 e1) := (blk_cell BKg4.out 1).trans rfl; have hfg4_1 := blk_frozen BKg4.out 1; have hcg4_2 : w17.cell? ⟨g4, 2, none⟩ = some (.slice Ae le.length ce) := (blk_cell BKg4.out 2).trans rfl; have hfg4_2 := blk_frozen BKg4.out 2; have hcg8_0 : w17.cell? ⟨g8, 0, none⟩ = some (.int .i64 e0) := (blk_cell BKg8.out 0).trans rfl; have hfg8_0 := blk_frozen BKg8.out 0; have hcg8_1 : w17.cell? ⟨g8, 1, none⟩ = some (.int .i64 e1) := (blk_cell BKg8.out 1).trans rfl; have hfg8_1 := blk_frozen BKg8.out 1; have hcg8_2 : w17.cell? ⟨g8, 2, none⟩ = some (.slice x_A le.length x_c) := (blk_cell BKg8.out 2).trans rfl; have hfg8_2 := blk_frozen BKg8.out 2; clear tok12; have tok13 : True := trivial) | (have _ := tok13; go_at_call 14; (with_reducible refine (desc_Bytes.calls 80000 a b c d e0 e1 x_A x_c le B eb _ ?s1 (by have := HCx.out; omega) AhB.out).mono ?_); (case s1 => exact marked_take (foot_now (HFx.out) (by repeat (first | exact Below.refl _ _ | apply below_alloc | apply pw_below_drewN | apply below_drew1)))); rintro e w18 ⟨vb3, rfl, ho, hb⟩; (try clear hcg3_0 hfg3_0); (try clear hcg3_1 hfg3_1); (try clear hcg3_2 hfg3_2); (try clear hcg3_3 hfg3_3); (try clear hcg4_0 hfg4_0); (try clear hcg4_1 hfg4_1); (try clear hcg4_2 hfg4_2); (try clear hcg8_0 hfg8_0); (try clear hcg8_1 hfg8_1); (try clear hcg8_2 hfg8_2); have hs : Below w17.heap.size w17 w18 := below_step (by repeat (first | exact Below.refl _ _ | apply below_alloc | apply pw_below_drewN | apply below_drew1)) hb; have hl : w17.heap.size ≤ _ := below_size (w := w17) (by repeat (first | exact Below.refl _ _ | apply below_alloc | apply pw_below_drewN | apply below_drew1)); have SZ18 := Aside0.mk (show w17.heap.size ≤ w18.heap.size from hs.size); have n_ := Aside0.mk (blk_below BKg3.out hs); clear BKg3; have BKg3 := n_; clear n_; have n_ := Aside0.mk (blk_below BKg4.out hs); clear BKg4; have BKg4 := n_; clear n_; have n_ := Aside0.mk (blk_below BKg8.out hs); clear BKg8; have BKg8 := n_; clear n_; have n_ := Aside0.mk (foot_below HFx.out hs); clear HFx; have HFx := n_; clear n_; have n_ := Aside0.mk (foot_below HFy.out hs); clear HFy; have HFy := n_; clear n_; have n_ := Aside0.mk (Kd.R_below HOb2.out hs); clear HOb2; have HOb2 := n_; clear n_; have n_ := Aside0.mk (Kd.R_below HOc2.out hs); clear HOc2; have HOc2 := n_; clear n_; have HOb3 := Aside0.mk (R_iv ho (below_size (by repeat (first | exact HB.out | apply below_alloc | apply pw_below_drewN | apply below_drew1))) hl); have n_ := Aside0.mk (below_step HB.out hs); clear HB; have HB := n_; clear n_; clear ho; have hcv1 := own_string (P := Try.prog) Try.underlying29 Try.underlying5 Try.underlying9 (Kd.own_of_R HOb3.out); have hcv2 := own_string (P := Try.prog) Try.underlying29 Try.underlying5 Try.underlying9 (Kd.own_of_R HOb2.out); clear hb hs; (try clear hl); have hcg3_0 : w18.cell? ⟨g3, 0, none⟩ = some (.int .i64 a) := (blk_cell BKg3.out 0).trans rfl; have hfg3_0 := blk_frozen BKg3.out 0; have hcg3_1 : w18.cell? ⟨g3, 1, none⟩ = some (.int .i64 b) := (blk_cell BKg3.out 1).trans rfl; have hfg3_1 := blk_frozen BKg3.out 1; have hcg3_2 : w18.cell? ⟨g3, 2, none⟩ = some (.int .i64 c) := (blk_cell BKg3.out 2).trans rfl; have hfg3_2 := blk_frozen BKg3.out 2; have hcg3_3 : w18.cell? ⟨g3, 3, none⟩ = some (.int .i64 d) := (blk_cell BKg3.out 3).trans rfl; have hfg3_3 := blk_frozen BKg3.out 3; have hcg4_0 : w18.cell? ⟨g4, 0, none⟩ = some (.int .i64 e0) := (blk_cell BKg4.out 0).trans rfl; have hfg4_0 := blk_frozen BKg4.out 0; have hcg4_1 : w18.cell? ⟨g4, 1, none⟩ = some (.int .i64 e1) := (blk_cell BKg4.out 1).trans rfl; have hfg4_1 := blk_frozen BKg4.out 1; have hcg4_2 : w18.cell? ⟨g4, 2, none⟩ = some (.slice Ae le.length ce) := (blk_cell BKg4.out 2).trans rfl; have hfg4_2 := blk_frozen BKg4.out 2; have hcg8_0 : w18.cell? ⟨g8, 0, none⟩ = some (.int .i64 e0) := (blk_cell BKg8.out 0).trans rfl; have hfg8_0 := blk_frozen BKg8.out 0; have hcg8_1 : w18.cell? ⟨g8, 1, none⟩ = some (.int .i64 e1) := (blk_cell BKg8.out 1).trans rfl; have hfg8_1 := blk_frozen BKg8.out 1; have hcg8_2 : w18.cell? ⟨g8, 2, none⟩ = some (.slice x_A le.length x_c) := (blk_cell BKg8.out 2).trans rfl; have hfg8_2 := blk_frozen BKg8.out 2; clear tok13; have tok14 : True := trivial) | (have _ := tok14; go_at_call 21; (with_reducible refine (kept2 80000 x_A x_c le Ae _ _ ?s1 HCx.out ?s2 Ahle.out (by have := Ah5.out; omega) (by have := Ah5.out; omega)).mono ?_); (case s1 => exact foot_now (HFx.out) (by repeat (first | exact Below.refl _ _ | apply below_alloc | apply pw_below_drewN | apply below_drew1))); (case s2 => exact Kd.C_below AhCe.out (by repeat (first | exact HB.out | apply below_alloc | apply pw_below_drewN | apply below_drew1))); rintro e w19 ⟨rfl, hd⟩; have hb := hd.below; (try clear hcg3_0 hfg3_0); (try clear hcg3_1 hfg3_1); (try clear hcg3_2 hfg3_2); (try clear hcg3_3 hfg3_3); (try clear hcg4_0 hfg4_0); (try clear hcg4_1 hfg4_1); (try clear hcg4_2 hfg4_2); (try clear hcg8_0 hfg8_0); (try clear hcg8_1 hfg8_1); (try clear hcg8_2 hfg8_2); have hs : Below w18.heap.size w18 w19 := below_step (by repeat (first | exact Below.refl _ _ | apply below_alloc | apply pw_below_drewN | apply below_drew1)) hb; have SZ19 := Aside0.mk (show w18.heap.size ≤ w19.heap.size from hs.size); have n_ := Aside0.mk (blk_below BKg3.out hs); clear BKg3; have BKg3 := n_; clear n_; have n_ := Aside0.mk (blk_below BKg4.out hs); clear BKg4; have BKg4 := n_; clear n_; have n_ := Aside0.mk (blk_below BKg8.out hs); clear BKg8; have BKg8 := n_; clear n_; have n_ := Aside0.mk (foot_below HFx.out hs); clear HFx; have HFx := n_; clear n_; have n_ := Aside0.mk (foot_below HFy.out hs); clear HFy; have HFy := n_; clear n_; have n_ := Aside0.mk (Kd.R_below HOb2.out hs); clear HOb2; have HOb2 := n_; clear n_; have n_ := Aside0.mk (Kd.R_below HOc2.out hs); clear HOc2; have HOc2 := n_; clear n_; have n_ := Aside0.mk (Kd.R_below HOb3.out hs); clear HOb3; have HOb3 := n_; clear n_; have n_ := Aside0.mk (below_step HB.out hs); clear HB; have HB := n_; clear n_; clear hb hd hs; have hcg3_0 : w19.cell? ⟨g3, 0, none⟩ = some (.int .i64 a) := (blk_cell BKg3.out 0).trans rfl; have hfg3_0 := blk_frozen BKg3.out 0; have hcg3_1 : w19.cell? ⟨g3, 1, none⟩ = some (.int .i64 b) := (blk_cell BKg3.out 1).trans rfl; have hfg3_1 := blk_frozen BKg3.out 1; have hcg3_2 : w19.cell? ⟨g3, 2, none⟩ = some (.int .i64 c) := (blk_cell BKg3.out 2).trans rfl; have hfg3_2 := blk_frozen BKg3.out 2; have hcg3_3 : w19.cell? ⟨g3, 3, none⟩ = some (.int .i64 d) := (blk_cell BKg3.out 3).trans rfl; have hfg3_3 := blk_frozen BKg3.out 3; have hcg4_0 : w19.cell? ⟨g4, 0, none⟩ = some (.int .i64 e0) := (blk_cell BKg4.out 0).trans rfl; have hfg4_0 := blk_frozen BKg4.out 0; have hcg4_1 : w19.cell? ⟨g4, 1, none⟩ = some (.int .i64 e1) := (blk_cell BKg4.out 1).trans rfl; have hfg4_1 := blk_frozen BKg4.out 1; have hcg4_2 : w19.cell? ⟨g4, 2, none⟩ = some (.slice Ae le.length ce) := (blk_cell BKg4.out 2).trans rfl; have hfg4_2 := blk_frozen BKg4.out 2; have hcg8_0 : w19.cell? ⟨g8, 0, none⟩ = some (.int .i64 e0) := (blk_cell BKg8.out 0).trans rfl; have hfg8_0 := blk_frozen BKg8.out 0; have hcg8_1 : w19.cell? ⟨g8, 1, none⟩ = some (.int .i64 e1) := (blk_cell BKg8.out 1).trans rfl; have hfg8_1 := blk_frozen BKg8.out 1; have hcg8_2 : w19.cell? ⟨g8, 2, none⟩ = some (.slice x_A le.length x_c) := (blk_cell BKg8.out 2).trans rfl; have hfg8_2 := blk_frozen BKg8.out 2; clear tok14; have tok15 : True := trivial) | (have _ := tok15; go_at_call 21; (with_reducible refine (kept2 80000 y_A y_c l Al _ _ ?s1 HCy.out ?s2 Ahll.out (by have := Ah6.out; omega) (by have := Ah6.out; omega)).mono ?_); (case s1 => exact foot_now (HFy.out) (by repeat (first | exact Below.refl _ _ | apply below_alloc | apply pw_below_drewN | apply below_drew1))); (case s2 => exact Kd.C_below AhCl.out (by repeat (first | exact HB.out | apply below_alloc | apply pw_below_drewN | apply below_drew1))); rintro e w20 ⟨rfl, hd⟩; have hb := hd.below; (try clear hcg3_0 hfg3_0); (try clear hcg3_1 hfg3_1); (try clear hcg3_2 hfg3_2); (try clear hcg3_3 hfg3_3); (try clear hcg4_0 hfg4_0); (try clear hcg4_1 hfg4_1); (try clear hcg4_2 hfg4_2); (try clear hcg8_0 hfg8_0); (try clear hcg8_1 hfg8_1); (try clear hcg8_2 hfg8_2); have hs : Below w19.heap.size w19 w20 := below_step (by repeat (first | exact Below.refl _ _ | apply below_alloc | apply pw_below_drewN | apply below_drew1)) hb; have SZ20 := Aside0.mk (show w19.heap.size ≤ w20.heap.size from hs.size); have n_ := Aside0.mk (blk_below BKg3.out hs); clear BKg3; have BKg3 := n_; clear n_; have n_ := Aside0.mk (blk_below BKg4.out hs); clear BKg4; have BKg4 := n_; clear n_; have n_ := Aside0.mk (blk_below BKg8.out hs); clear BKg8; have BKg8 := n_; clear n_; have n_ := Aside0.mk (foot_below HFx.out hs); clear HFx; have HFx := n_; clear n_; have n_ := Aside0.mk (foot_below HFy.out hs); clear HFy; have HFy := n_; clear n_; have n_ := Aside0.mk (Kd.R_below HOb2.out hs); clear HOb2; have HOb2 := n_; clear n_; have n_ := Aside0.mk (Kd.R_below HOc2.out hs); clear HOc2; have HOc2 := n_; clear n_; have n_ := Aside0.mk (Kd.R_below HOb3.out hs); clear HOb3; have HOb3 := n_; clear n_; have n_ := Aside0.mk (below_step HB.out hs); clear HB; have HB := n_; clear n_; clear hb hd hs; have hcg3_0 : w20.cell? ⟨g3, 0, none⟩ = some (.int .i64 a) := (blk_cell BKg3.out 0).trans rfl; have hfg3_0 := blk_frozen BKg3.out 0; have hcg3_1 : w20.cell? ⟨g3, 1, none⟩ = some (.int .i64 b) := (blk_cell BKg3.out 1).trans rfl; have hfg3_1 := blk_frozen BKg3.out 1; have hcg3_2 : w20.cell? ⟨g3, 2, none⟩ = some (.int .i64 c) := (blk_cell BKg3.out 2).trans rfl; have hfg3_2 := blk_frozen BKg3.out 2; have hcg3_3 : w20.cell? ⟨g3, 3, none⟩ = some (.int .i64 d) := (blk_cell BKg3.out 3).trans rfl; have hfg3_3 := blk_frozen BKg3.out 3; have hcg4_0 : w20.cell? ⟨g4, 0, none⟩ = some (.int .i64 e0) := (blk_cell BKg4.out 0).trans rfl; have hfg4_0 := blk_frozen BKg4.out 0; have hcg4_1 : w20.cell? ⟨g4, 1, none⟩ = some (.int .i64 e1) := (blk_cell BKg4.out 1).trans rfl; have hfg4_1 := blk_frozen BKg4.out 1; have hcg4_2 : w20.cell? ⟨g4, 2, none⟩ = some (.slice Ae le.length ce) := (blk_cell BKg4.out 2).trans rfl; have hfg4_2 := blk_frozen BKg4.out 2; have hcg8_0 : w20.cell? ⟨g8, 0, none⟩ = some (.int .i64 e0) := (blk_cell BKg8.out 0).trans rfl; have hfg8_0 := blk_frozen BKg8.out 0; have hcg8_1 : w20.cell? ⟨g8, 1, none⟩ = some (.int .i64 e1) := (blk_cell BKg8.out 1).trans rfl; have hfg8_1 := blk_frozen BKg8.out 1; have hcg8_2 : w20.cell? ⟨g8, 2, none⟩ = some (.slice x_A le.length x_c) := (blk_cell BKg8.out 2).trans rfl; have hfg8_2 := blk_frozen BKg8.out 2; clear tok15))
  go_wp2
  go_ret
  exact ⟨rfl, HB.out⟩
end Go.Proofs.Ytdpllcmpndcbnaa.P

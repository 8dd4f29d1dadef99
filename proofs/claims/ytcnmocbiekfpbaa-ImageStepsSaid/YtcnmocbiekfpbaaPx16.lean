-- Written by a program of this session, after the kit's print.
import Derived.Test.YtcnmocbiekfpbaaPx0
import Derived.Test.YtcnmocbiekfpbaaPx4
import Derived.Test.YtcnmocbiekfpbaaPx5
import Derived.Test.YtcnmocbiekfpbaaPx6
import Derived.Test.YtcnmocbiekfpbaaPx7
import Derived.Test.YtcnmocbiekfpbaaPx8
import Derived.Test.YtcnmocbiekfpbaaPx15
namespace Go.Proofs.Ytcnmocbiekfpbaa.P
open Go.RowKit Go.Proofs.YtcnmocbiekfpbaaW.PrintWords Go.Proofs.YtcnmocbiekfpbaaW.PrintLast Go.Proofs.YtcnmocbiekfpbaaW.PrintMore
attribute [local go_sem] max2_int min2_int max_two min_two max_three min_three max_four min_four   -- for this text's walks alone
set_option linter.unusedVariables false
set_option linter.unusedSimpArgs false

/-! ### twoslotlaw09_alive: function 9 (by hand) -/
/-- A pair of slots. -/
def kPair : Kd (List Int × List Int) := Kd.pair (Kd.slice 5 (Kd.int .u8)) (Kd.slice 5 (Kd.int .u8))
theorem info59 : (Try.prog.info? 59).map (fun i => (i.zero, i.size, i.bytes)) = some (some (.agg #[.slice none 0 0, .slice none 0 0]), 2, 48) := by kernel_rfl
theorem add_add9 (a : Addr) (i j : Nat) : (a.add i).add j = a.add (i + j) := by
  unfold Addr.add
  by_cases hi : i = 0
  · subst hi; simp
  · by_cases hj : j = 0
    · subst hj; simp
    · rw [if_neg hj, if_neg hi, if_neg (by omega)]; simp [Nat.add_assoc]
/-- Where a row's slots begin on a drive. -/
def rowAt (d n : Int) (i : Nat) : Int := wrap64 (wrap64 (wrap64 ((i : Int) * d) + n) * 2)
def rowOf (at_ : Nat → Nat) (sl : List (List Int)) (k : Nat) : List (List Int × List Int) := (List.range k).map fun i => (sl.getD (at_ i) [], sl.getD (at_ i + 1) [])
theorem rowOf_succ (at_ : Nat → Nat) (sl : List (List Int)) (k : Nat) : rowOf at_ sl (k + 1) = rowOf at_ sl k ++ [(sl.getD (at_ k) [], sl.getD (at_ k + 1) [])] := by
  unfold rowOf
  rw [List.range_succ, List.map_append]
  rfl
theorem rowOf_len (at_ : Nat → Nat) (sl : List (List Int)) (k : Nat) : (rowOf at_ sl k).length = k := by simp [rowOf]
theorem elem_getD9 {l : List (List Int)} {k : Nat} {x : List Int} (h : l.take (k + 1) = l.take k ++ [x]) (hk : k < l.length) : l.getD k [] = x := by
  have h1 := List.take_succ_eq_append_getElem hk
  rw [h] at h1
  have h2 := List.append_cancel_left h1
  injection h2 with h3 _
  rw [h3, List.getD_eq_getElem?_getD, List.getElem?_eq_getElem hk]
  rfl
theorem wrap_two (p : Nat) (h : p ≤ 1000000) : wrap64 ((p : Int) + 2) = ((p + 2 : Nat) : Int) := by
  unfold wrap64
  omega
set_option maxHeartbeats 8000000 in
set_option maxRecDepth 100000 in
theorem Row_check (k0 : Nat) (a b c d : Int) (Am : Option Addr) (cm : Nat) (sl : List (List Int)) (n : Int) (w : World) (hCm : Kd.C (Kd.slice 5 (Kd.int .u8)) w Am sl.length sl) (hcm : sl.length ≤ cm) (e0 : Int) (hck : image_Check.f k0 a b c d sl = some e0) (he : e0 ≠ 0) : Calls Try.prog 15 #[.agg #[.int .i64 a, .int .i64 b, .int .i64 c, .int .i64 d, .slice Am sl.length cm], .int .i64 n] w fun e w' => e = .returned (.tuple #[.slice none 0 0, .int .i64 e0]) ∧ Below w.heap.size w w' := by
  have hu27 := Try.underlying27
  have hu24 := Try.underlying24
  have HB := Aside0.mk (Below.refl w.heap.size w)
  have HC := Aside0.mk hCm
  have HCM := Aside0.mk hcm
  have HCK := Aside0.mk hck
  have d1 : (e0 == 0) = false := beq_false_of_ne he
  have d2 : (e0 = 0) = False := eq_false he
  clear hck he
  clear hCm hcm
  go_enter Try.func15, Try.ntmps15
  have tok1 : True := trivial
  go_wp2_with (first | (have _ := tok1; (with_reducible refine gate_dst (N := 2) rfl ?_); refine box_event ?hg (N := 2) ?hd (cs := #[.int .i64 a, .int .i64 b, .int .i64 c, .int .i64 d, .slice Am sl.length cm]) (t := 27) ?hr ?_; (case hd => rfl); (case hg => rfl); (case hr => first | (go_simp; done) | (go_simp; rfl)); intro g3 hg w1 hbox hb; have hs : Below w.heap.size w w1 := below_step (by repeat (first | exact Below.refl _ _ | apply below_alloc | apply pw_below_drewN | apply below_drew1)) hb; have SZ1 := Aside0.mk (show w.heap.size ≤ g3 ∧ g3 < w1.heap.size from ⟨by rw [hg]; exact (below_size (by repeat (first | exact Below.refl _ _ | apply below_alloc | apply pw_below_drewN | apply below_drew1))), blk_lt hbox⟩); replace HB := Aside0.mk (below_step HB.out hs); have BKg3 := Aside0.mk hbox; clear hb hbox hg hs; have hcg3_0 : w1.cell? ⟨g3, 0, none⟩ = some (.int .i64 a) := (blk_cell BKg3.out 0).trans rfl; have hfg3_0 := blk_frozen BKg3.out 0; have hcg3_1 : w1.cell? ⟨g3, 1, none⟩ = some (.int .i64 b) := (blk_cell BKg3.out 1).trans rfl; have hfg3_1 := blk_frozen BKg3.out 1; have hcg3_2 : w1.cell? ⟨g3, 2, none⟩ = some (.int .i64 c) := (blk_cell BKg3.out 2).trans rfl; have hfg3_2 := blk_frozen BKg3.out 2; have hcg3_3 : w1.cell? ⟨g3, 3, none⟩ = some (.int .i64 d) := (blk_cell BKg3.out 3).trans rfl; have hfg3_3 := blk_frozen BKg3.out 3; have hcg3_4 : w1.cell? ⟨g3, 4, none⟩ = some (.slice Am sl.length cm) := (blk_cell BKg3.out 4).trans rfl; have hfg3_4 := blk_frozen BKg3.out 4; clear tok1; have tok2 : True := trivial) | (have _ := tok2; go_at_call 17; (with_reducible refine (image_Check.calls k0 a b c d Am cm sl e0 _ ?s1 HCM.out HCK.out).mono ?_); (case s1 => exact Kd.C_below HC.out (by repeat (first | exact HB.out | apply below_alloc | apply pw_below_drewN | apply below_drew1))); rintro e w2 ⟨rfl, hb⟩; (try clear hcg3_0 hfg3_0); (try clear hcg3_1 hfg3_1); (try clear hcg3_2 hfg3_2); (try clear hcg3_3 hfg3_3); (try clear hcg3_4 hfg3_4); have hs : Below w1.heap.size w1 w2 := below_step (by repeat (first | exact Below.refl _ _ | apply below_alloc | apply pw_below_drewN | apply below_drew1)) hb; have hl : w1.heap.size ≤ _ := below_size (w := w1) (by repeat (first | exact Below.refl _ _ | apply below_alloc | apply pw_below_drewN | apply below_drew1)); have SZ2 := Aside0.mk (show w1.heap.size ≤ w2.heap.size from hs.size); replace BKg3 := Aside0.mk (blk_below BKg3.out hs); replace HB := Aside0.mk (below_step HB.out hs); clear hb hs; (try clear hl); have hcg3_0 : w2.cell? ⟨g3, 0, none⟩ = some (.int .i64 a) := (blk_cell BKg3.out 0).trans rfl; have hfg3_0 := blk_frozen BKg3.out 0; have hcg3_1 : w2.cell? ⟨g3, 1, none⟩ = some (.int .i64 b) := (blk_cell BKg3.out 1).trans rfl; have hfg3_1 := blk_frozen BKg3.out 1; have hcg3_2 : w2.cell? ⟨g3, 2, none⟩ = some (.int .i64 c) := (blk_cell BKg3.out 2).trans rfl; have hfg3_2 := blk_frozen BKg3.out 2; have hcg3_3 : w2.cell? ⟨g3, 3, none⟩ = some (.int .i64 d) := (blk_cell BKg3.out 3).trans rfl; have hfg3_3 := blk_frozen BKg3.out 3; have hcg3_4 : w2.cell? ⟨g3, 4, none⟩ = some (.slice Am sl.length cm) := (blk_cell BKg3.out 4).trans rfl; have hfg3_4 := blk_frozen BKg3.out 4; clear tok2))
  go_ret2
  exact ⟨rfl, HB.out⟩
set_option maxHeartbeats 8000000 in
set_option maxRecDepth 100000 in
theorem Row_less (k0 : Nat) (a b c d : Int) (Am : Option Addr) (cm : Nat) (sl : List (List Int)) (n : Int) (w : World) (hCm : Kd.C (Kd.slice 5 (Kd.int .u8)) w Am sl.length sl) (hcm : sl.length ≤ cm) (hck : image_Check.f k0 a b c d sl = some 0) (hn : n < 0) : Calls Try.prog 15 #[.agg #[.int .i64 a, .int .i64 b, .int .i64 c, .int .i64 d, .slice Am sl.length cm], .int .i64 n] w fun e w' => e = .returned (.tuple #[.slice none 0 0, .int .i64 2]) ∧ Below w.heap.size w w' := by
  have hu27 := Try.underlying27
  have hu24 := Try.underlying24
  have HB := Aside0.mk (Below.refl w.heap.size w)
  have HC := Aside0.mk hCm
  have HCM := Aside0.mk hcm
  have HCK := Aside0.mk hck
  clear hck
  have d3 : decide (n < 0) = true := decide_eq_true hn
  clear hn
  clear hCm hcm
  go_enter Try.func15, Try.ntmps15
  have tok1 : True := trivial
  go_wp2_with (first | (have _ := tok1; (with_reducible refine gate_dst (N := 2) rfl ?_); refine box_event ?hg (N := 2) ?hd (cs := #[.int .i64 a, .int .i64 b, .int .i64 c, .int .i64 d, .slice Am sl.length cm]) (t := 27) ?hr ?_; (case hd => rfl); (case hg => rfl); (case hr => first | (go_simp; done) | (go_simp; rfl)); intro g3 hg w1 hbox hb; have hs : Below w.heap.size w w1 := below_step (by repeat (first | exact Below.refl _ _ | apply below_alloc | apply pw_below_drewN | apply below_drew1)) hb; have SZ1 := Aside0.mk (show w.heap.size ≤ g3 ∧ g3 < w1.heap.size from ⟨by rw [hg]; exact (below_size (by repeat (first | exact Below.refl _ _ | apply below_alloc | apply pw_below_drewN | apply below_drew1))), blk_lt hbox⟩); replace HB := Aside0.mk (below_step HB.out hs); have BKg3 := Aside0.mk hbox; clear hb hbox hg hs; have hcg3_0 : w1.cell? ⟨g3, 0, none⟩ = some (.int .i64 a) := (blk_cell BKg3.out 0).trans rfl; have hfg3_0 := blk_frozen BKg3.out 0; have hcg3_1 : w1.cell? ⟨g3, 1, none⟩ = some (.int .i64 b) := (blk_cell BKg3.out 1).trans rfl; have hfg3_1 := blk_frozen BKg3.out 1; have hcg3_2 : w1.cell? ⟨g3, 2, none⟩ = some (.int .i64 c) := (blk_cell BKg3.out 2).trans rfl; have hfg3_2 := blk_frozen BKg3.out 2; have hcg3_3 : w1.cell? ⟨g3, 3, none⟩ = some (.int .i64 d) := (blk_cell BKg3.out 3).trans rfl; have hfg3_3 := blk_frozen BKg3.out 3; have hcg3_4 : w1.cell? ⟨g3, 4, none⟩ = some (.slice Am sl.length cm) := (blk_cell BKg3.out 4).trans rfl; have hfg3_4 := blk_frozen BKg3.out 4; clear tok1; have tok2 : True := trivial) | (have _ := tok2; go_at_call 17; (with_reducible refine (image_Check.calls k0 a b c d Am cm sl 0 _ ?s1 HCM.out HCK.out).mono ?_); (case s1 => exact Kd.C_below HC.out (by repeat (first | exact HB.out | apply below_alloc | apply pw_below_drewN | apply below_drew1))); rintro e w2 ⟨rfl, hb⟩; (try clear hcg3_0 hfg3_0); (try clear hcg3_1 hfg3_1); (try clear hcg3_2 hfg3_2); (try clear hcg3_3 hfg3_3); (try clear hcg3_4 hfg3_4); have hs : Below w1.heap.size w1 w2 := below_step (by repeat (first | exact Below.refl _ _ | apply below_alloc | apply pw_below_drewN | apply below_drew1)) hb; have hl : w1.heap.size ≤ _ := below_size (w := w1) (by repeat (first | exact Below.refl _ _ | apply below_alloc | apply pw_below_drewN | apply below_drew1)); have SZ2 := Aside0.mk (show w1.heap.size ≤ w2.heap.size from hs.size); replace BKg3 := Aside0.mk (blk_below BKg3.out hs); replace HB := Aside0.mk (below_step HB.out hs); clear hb hs; (try clear hl); have hcg3_0 : w2.cell? ⟨g3, 0, none⟩ = some (.int .i64 a) := (blk_cell BKg3.out 0).trans rfl; have hfg3_0 := blk_frozen BKg3.out 0; have hcg3_1 : w2.cell? ⟨g3, 1, none⟩ = some (.int .i64 b) := (blk_cell BKg3.out 1).trans rfl; have hfg3_1 := blk_frozen BKg3.out 1; have hcg3_2 : w2.cell? ⟨g3, 2, none⟩ = some (.int .i64 c) := (blk_cell BKg3.out 2).trans rfl; have hfg3_2 := blk_frozen BKg3.out 2; have hcg3_3 : w2.cell? ⟨g3, 3, none⟩ = some (.int .i64 d) := (blk_cell BKg3.out 3).trans rfl; have hfg3_3 := blk_frozen BKg3.out 3; have hcg3_4 : w2.cell? ⟨g3, 4, none⟩ = some (.slice Am sl.length cm) := (blk_cell BKg3.out 4).trans rfl; have hfg3_4 := blk_frozen BKg3.out 4; clear tok2))
  go_ret2
  exact ⟨rfl, HB.out⟩
set_option maxHeartbeats 8000000 in
set_option maxRecDepth 100000 in
theorem Row_more (k0 : Nat) (a b c d : Int) (Am : Option Addr) (cm : Nat) (sl : List (List Int)) (n : Int) (w : World) (hCm : Kd.C (Kd.slice 5 (Kd.int .u8)) w Am sl.length sl) (hcm : sl.length ≤ cm) (hck : image_Check.f k0 a b c d sl = some 0) (hn : 0 ≤ n) (hm : d ≤ n) : Calls Try.prog 15 #[.agg #[.int .i64 a, .int .i64 b, .int .i64 c, .int .i64 d, .slice Am sl.length cm], .int .i64 n] w fun e w' => e = .returned (.tuple #[.slice none 0 0, .int .i64 2]) ∧ Below w.heap.size w w' := by
  have hu27 := Try.underlying27
  have hu24 := Try.underlying24
  have HB := Aside0.mk (Below.refl w.heap.size w)
  have HC := Aside0.mk hCm
  have HCM := Aside0.mk hcm
  have HCK := Aside0.mk hck
  clear hck
  have d3 : decide (n < 0) = false := decide_eq_false (by omega)
  have d4 : decide (d ≤ n) = true := decide_eq_true hm
  clear hn hm
  clear hCm hcm
  go_enter Try.func15, Try.ntmps15
  have tok1 : True := trivial
  go_wp2_with (first | (have _ := tok1; (with_reducible refine gate_dst (N := 2) rfl ?_); refine box_event ?hg (N := 2) ?hd (cs := #[.int .i64 a, .int .i64 b, .int .i64 c, .int .i64 d, .slice Am sl.length cm]) (t := 27) ?hr ?_; (case hd => rfl); (case hg => rfl); (case hr => first | (go_simp; done) | (go_simp; rfl)); intro g3 hg w1 hbox hb; have hs : Below w.heap.size w w1 := below_step (by repeat (first | exact Below.refl _ _ | apply below_alloc | apply pw_below_drewN | apply below_drew1)) hb; have SZ1 := Aside0.mk (show w.heap.size ≤ g3 ∧ g3 < w1.heap.size from ⟨by rw [hg]; exact (below_size (by repeat (first | exact Below.refl _ _ | apply below_alloc | apply pw_below_drewN | apply below_drew1))), blk_lt hbox⟩); replace HB := Aside0.mk (below_step HB.out hs); have BKg3 := Aside0.mk hbox; clear hb hbox hg hs; have hcg3_0 : w1.cell? ⟨g3, 0, none⟩ = some (.int .i64 a) := (blk_cell BKg3.out 0).trans rfl; have hfg3_0 := blk_frozen BKg3.out 0; have hcg3_1 : w1.cell? ⟨g3, 1, none⟩ = some (.int .i64 b) := (blk_cell BKg3.out 1).trans rfl; have hfg3_1 := blk_frozen BKg3.out 1; have hcg3_2 : w1.cell? ⟨g3, 2, none⟩ = some (.int .i64 c) := (blk_cell BKg3.out 2).trans rfl; have hfg3_2 := blk_frozen BKg3.out 2; have hcg3_3 : w1.cell? ⟨g3, 3, none⟩ = some (.int .i64 d) := (blk_cell BKg3.out 3).trans rfl; have hfg3_3 := blk_frozen BKg3.out 3; have hcg3_4 : w1.cell? ⟨g3, 4, none⟩ = some (.slice Am sl.length cm) := (blk_cell BKg3.out 4).trans rfl; have hfg3_4 := blk_frozen BKg3.out 4; clear tok1; have tok2 : True := trivial) | (have _ := tok2; go_at_call 17; (with_reducible refine (image_Check.calls k0 a b c d Am cm sl 0 _ ?s1 HCM.out HCK.out).mono ?_); (case s1 => exact Kd.C_below HC.out (by repeat (first | exact HB.out | apply below_alloc | apply pw_below_drewN | apply below_drew1))); rintro e w2 ⟨rfl, hb⟩; (try clear hcg3_0 hfg3_0); (try clear hcg3_1 hfg3_1); (try clear hcg3_2 hfg3_2); (try clear hcg3_3 hfg3_3); (try clear hcg3_4 hfg3_4); have hs : Below w1.heap.size w1 w2 := below_step (by repeat (first | exact Below.refl _ _ | apply below_alloc | apply pw_below_drewN | apply below_drew1)) hb; have hl : w1.heap.size ≤ _ := below_size (w := w1) (by repeat (first | exact Below.refl _ _ | apply below_alloc | apply pw_below_drewN | apply below_drew1)); have SZ2 := Aside0.mk (show w1.heap.size ≤ w2.heap.size from hs.size); replace BKg3 := Aside0.mk (blk_below BKg3.out hs); replace HB := Aside0.mk (below_step HB.out hs); clear hb hs; (try clear hl); have hcg3_0 : w2.cell? ⟨g3, 0, none⟩ = some (.int .i64 a) := (blk_cell BKg3.out 0).trans rfl; have hfg3_0 := blk_frozen BKg3.out 0; have hcg3_1 : w2.cell? ⟨g3, 1, none⟩ = some (.int .i64 b) := (blk_cell BKg3.out 1).trans rfl; have hfg3_1 := blk_frozen BKg3.out 1; have hcg3_2 : w2.cell? ⟨g3, 2, none⟩ = some (.int .i64 c) := (blk_cell BKg3.out 2).trans rfl; have hfg3_2 := blk_frozen BKg3.out 2; have hcg3_3 : w2.cell? ⟨g3, 3, none⟩ = some (.int .i64 d) := (blk_cell BKg3.out 3).trans rfl; have hfg3_3 := blk_frozen BKg3.out 3; have hcg3_4 : w2.cell? ⟨g3, 4, none⟩ = some (.slice Am sl.length cm) := (blk_cell BKg3.out 4).trans rfl; have hfg3_4 := blk_frozen BKg3.out 4; clear tok2))
  go_ret2
  exact ⟨rfl, HB.out⟩
set_option maxHeartbeats 8000000 in
set_option maxRecDepth 100000 in
theorem Row_good (k0 : Nat) (a b c d : Int) (Am : Option Addr) (cm : Nat) (sl : List (List Int)) (n : Int) (w : World) (hCm : Kd.C (Kd.slice 5 (Kd.int .u8)) w Am sl.length sl) (hcm : sl.length ≤ cm) (hck : image_Check.f k0 a b c d sl = some 0) (hn : 0 ≤ n) (hm : n < d) (m : Nat) (hN : wrap64 (a + b) = (m : Int)) (hm2 : m ≤ 10000) (at_ : Nat → Nat) (hat : ∀ i, i < m → rowAt d n i = (at_ i : Int) ∧ at_ i + 2 ≤ sl.length) (hsl : sl.length ≤ 100000) (hel : ∀ x ∈ sl, x.length ≤ 1000000) : Calls Try.prog 15 #[.agg #[.int .i64 a, .int .i64 b, .int .i64 c, .int .i64 d, .slice Am sl.length cm], .int .i64 n] w fun e w' => ∃ v : Value, e = .returned (.tuple #[v, .int .i64 0]) ∧ Kd.R kPair 59 w' w.heap.size (fun _ => True) v (rowOf at_ sl m) ∧ Below w.heap.size w w' := by
  have hu27 := Try.underlying27
  have hu24 := Try.underlying24
  have HB := Aside0.mk (Below.refl w.heap.size w)
  have HC := Aside0.mk hCm
  have HCM := Aside0.mk hcm
  have HCK := Aside0.mk hck
  clear hck
  have d3 : decide (n < 0) = false := decide_eq_false (by clear hN; omega)
  have d4 : decide (d ≤ n) = false := decide_eq_false (by clear hN; omega)
  have HN := Aside0.mk hN
  have HM := Aside0.mk hm2
  have HAT := Aside0.mk hat
  have HSL := Aside0.mk hsl
  have HEL := Aside0.mk hel
  clear hn hm hm2 hat hsl hel
  clear hCm hcm
  go_enter Try.func15, Try.ntmps15
  have tok1 : True := trivial
  go_wp2_with (first | (have _ := tok1; (with_reducible refine gate_dst (N := 2) rfl ?_); refine box_event ?hg (N := 2) ?hd (cs := #[.int .i64 a, .int .i64 b, .int .i64 c, .int .i64 d, .slice Am sl.length cm]) (t := 27) ?hr ?_; (case hd => rfl); (case hg => rfl); (case hr => first | (go_simp; done) | (go_simp; rfl)); intro g3 hg w1 hbox hb; have hs : Below w.heap.size w w1 := below_step (by repeat (first | exact Below.refl _ _ | apply below_alloc | apply pw_below_drewN | apply below_drew1)) hb; have SZ1 := Aside0.mk (show w.heap.size ≤ g3 ∧ g3 < w1.heap.size from ⟨by rw [hg]; exact (below_size (by repeat (first | exact Below.refl _ _ | apply below_alloc | apply pw_below_drewN | apply below_drew1))), blk_lt hbox⟩); replace HB := Aside0.mk (below_step HB.out hs); have BKg3 := Aside0.mk hbox; clear hb hbox hg hs; have hcg3_0 : w1.cell? ⟨g3, 0, none⟩ = some (.int .i64 a) := (blk_cell BKg3.out 0).trans rfl; have hfg3_0 := blk_frozen BKg3.out 0; have hcg3_1 : w1.cell? ⟨g3, 1, none⟩ = some (.int .i64 b) := (blk_cell BKg3.out 1).trans rfl; have hfg3_1 := blk_frozen BKg3.out 1; have hcg3_2 : w1.cell? ⟨g3, 2, none⟩ = some (.int .i64 c) := (blk_cell BKg3.out 2).trans rfl; have hfg3_2 := blk_frozen BKg3.out 2; have hcg3_3 : w1.cell? ⟨g3, 3, none⟩ = some (.int .i64 d) := (blk_cell BKg3.out 3).trans rfl; have hfg3_3 := blk_frozen BKg3.out 3; have hcg3_4 : w1.cell? ⟨g3, 4, none⟩ = some (.slice Am sl.length cm) := (blk_cell BKg3.out 4).trans rfl; have hfg3_4 := blk_frozen BKg3.out 4; clear tok1; have tok2 : True := trivial) | (have _ := tok2; go_at_call 17; (with_reducible refine (image_Check.calls k0 a b c d Am cm sl 0 _ ?s1 HCM.out HCK.out).mono ?_); (case s1 => exact Kd.C_below HC.out (by repeat (first | exact HB.out | apply below_alloc | apply pw_below_drewN | apply below_drew1))); rintro e w2 ⟨rfl, hb⟩; (try clear hcg3_0 hfg3_0); (try clear hcg3_1 hfg3_1); (try clear hcg3_2 hfg3_2); (try clear hcg3_3 hfg3_3); (try clear hcg3_4 hfg3_4); have hs : Below w1.heap.size w1 w2 := below_step (by repeat (first | exact Below.refl _ _ | apply below_alloc | apply pw_below_drewN | apply below_drew1)) hb; have hl : w1.heap.size ≤ _ := below_size (w := w1) (by repeat (first | exact Below.refl _ _ | apply below_alloc | apply pw_below_drewN | apply below_drew1)); have SZ2 := Aside0.mk (show w1.heap.size ≤ w2.heap.size from hs.size); replace BKg3 := Aside0.mk (blk_below BKg3.out hs); replace HB := Aside0.mk (below_step HB.out hs); clear hb hs; (try clear hl); have hcg3_0 : w2.cell? ⟨g3, 0, none⟩ = some (.int .i64 a) := (blk_cell BKg3.out 0).trans rfl; have hfg3_0 := blk_frozen BKg3.out 0; have hcg3_1 : w2.cell? ⟨g3, 1, none⟩ = some (.int .i64 b) := (blk_cell BKg3.out 1).trans rfl; have hfg3_1 := blk_frozen BKg3.out 1; have hcg3_2 : w2.cell? ⟨g3, 2, none⟩ = some (.int .i64 c) := (blk_cell BKg3.out 2).trans rfl; have hfg3_2 := blk_frozen BKg3.out 2; have hcg3_3 : w2.cell? ⟨g3, 3, none⟩ = some (.int .i64 d) := (blk_cell BKg3.out 3).trans rfl; have hfg3_3 := blk_frozen BKg3.out 3; have hcg3_4 : w2.cell? ⟨g3, 4, none⟩ = some (.slice Am sl.length cm) := (blk_cell BKg3.out 4).trans rfl; have hfg3_4 := blk_frozen BKg3.out 4; clear tok2))
  (try clear hcg3_0 hfg3_0)
  (try clear hcg3_1 hfg3_1)
  (try clear hcg3_2 hfg3_2)
  (try clear hcg3_3 hfg3_3)
  (try clear hcg3_4 hfg3_4)
  clear hN
  have HGE := Aside0.mk (show w.heap.size ≤ g3 by have := SZ1.out; omega)
  go_loopg [7, 32] m (fun kq v7 v32 wr => ∃ (k : Nat) (vv : Value), v7 = vv ∧ v32 = .int .i64 (k : Int) ∧ Aside0 (k ≤ m ∧ m - k ≤ kq) ∧ Aside0 (wr.heap[g3]? = some (.cells #[.int .i64 a, .int .i64 b, .int .i64 c, .int .i64 d, .slice Am sl.length cm] 27 (0, 0))) ∧ Aside0 (Kd.R kPair 59 wr w.heap.size (fun _ => True) vv (rowOf at_ sl k)) ∧ Aside0 (Below w.heap.size w wr))
  case atStart => exact ⟨0, _, rfl, rfl, Aside0.mk ⟨by omega, by omega⟩, Aside0.mk (by (with_reducible repeat (first | refine blk_drewN ?_ _ | refine blk_drew ?_ | refine blk_alloc ?_ _)); exact BKg3.out), Aside0.mk (Kd.R_nil _ _ _ _ _), Aside0.mk (by repeat (first | exact HB.out | apply below_alloc | apply pw_below_drewN | apply below_drew1))⟩
  case round =>
    clear BKg3 HB
    obtain ⟨k, vv, ev, rfl, AX, BKg3, HO, HB⟩ := hrel
    have ev_ := ev.symm
    subst ev_
    by_cases hlt : k < m
    · have hat := HAT.out k hlt
      obtain ⟨p, hp⟩ : ∃ p : Nat, p = at_ k := ⟨_, rfl⟩
      rw [← hp] at hat
      have hp1 : p < sl.length := by omega
      have hp2 : p + 1 < sl.length := by omega
      obtain ⟨ad, x, eA, hfx, hxm, Bx, cx, hcx, hlex, hCx⟩ := bytes_elem HC.out p hp1
      obtain ⟨ad2, y, eA2, hfy, hym, By, cy, hcy, hley, hCy⟩ := bytes_elem HC.out (p + 1) hp2
      subst eA
      obtain rfl : ad = ad2 := by injection eA2
      clear eA2
      have HPX := Aside0.mk (elem_getD9 hfx hp1)
      have HPY := Aside0.mk (elem_getD9 hfy hp2)
      have HPA := Aside0.mk hp
      have ACx := Aside0.mk (show image_taken.f x = some x by unfold image_taken.f; rw [if_pos (Nat.le_trans (HEL.out x hxm) (by decide))])
      have ACy := Aside0.mk (show image_taken.f y = some y by unfold image_taken.f; rw [if_pos (Nat.le_trans (HEL.out y hym) (by decide))])
      have ALx := Aside0.mk hlex
      have ALy := Aside0.mk hley
      have HCx := Aside0.mk hCx
      have HCy := Aside0.mk hCy
      have HK := Aside0.mk hlt
      have hr : wrap64 (wrap64 (wrap64 ((k : Int) * d) + n) * 2) = (p : Int) := hat.1
      obtain ⟨j, hj⟩ : ∃ j : Nat, j = p + 2 := ⟨_, rfl⟩
      have hw2 : wrap64 ((p : Int) + 2) = (j : Int) := by
        rw [hj]
        exact wrap_two p (by clear hr hj; have := HSL.out; omega)
      have b1 : decide ((k : Int) < wrap64 (a + b)) = true := by rw [HN.out]; exact decide_eq_true (by clear hr hw2; omega)
      have b2 : decide (k < m) = true := decide_eq_true hlt
      have b3 : (k < m) = True := eq_true hlt
      have f1 : (j ≤ cm) = True := eq_true (by clear hr hw2; have := HCM.out; omega)
      have f2 : (p ≤ j) = True := eq_true (by clear hr hw2; omega)
      have f3 : (j = p) = False := eq_false (by clear hr hw2; omega)
      have f4 : j - p = 2 := by clear hr hw2; omega
      clear hj
      have Hcx := Aside0.mk (pw_cell_below HB.out hcx)
      have Hcy := Aside0.mk (show wr.cell? ⟨(ad.add p).block, (ad.add p).off + 1, none⟩ = some (.slice By y.length cy) by rw [← add_field _ _ 1 (by omega)]; exact pw_cell_below HB.out hcy)
      have HZ3 := Aside0.mk (show g3 < wr.heap.size from blk_lt BKg3.out)
      have HWR := Aside0.mk (show w.heap.size ≤ wr.heap.size from HB.out.size)
      clear hlt hat hp hp1 hp2 hfx hfy hxm hym hcx hcy hlex hley hCx hCy
      have hcg3_0 : wr.cell? ⟨g3, 0, none⟩ = some (.int .i64 a) := (blk_cell BKg3.out 0).trans rfl
      have hfg3_0 := blk_frozen BKg3.out 0
      have hcg3_1 : wr.cell? ⟨g3, 1, none⟩ = some (.int .i64 b) := (blk_cell BKg3.out 1).trans rfl
      have hfg3_1 := blk_frozen BKg3.out 1
      have hcg3_3 : wr.cell? ⟨g3, 3, none⟩ = some (.int .i64 d) := (blk_cell BKg3.out 3).trans rfl
      have hfg3_3 := blk_frozen BKg3.out 3
      have hcg3_4 : wr.cell? ⟨g3, 4, none⟩ = some (.slice (some ad) sl.length cm) := (blk_cell BKg3.out 4).trans rfl
      have hfg3_4 := blk_frozen BKg3.out 4
      have xHcx := Hcx.out
      have xHcy := Hcy.out
      go_wp2_with (fail)
      have HOr := Aside0.mk HO.out
      clear hr hw2 f1 f2 f3 f4
      (try clear hcg3_0 hfg3_0)
      (try clear hcg3_1 hfg3_1)
      (try clear hcg3_3 hfg3_3)
      (try clear hcg3_4 hfg3_4)
      (try clear xHcx)
      (try clear xHcy)
      have hs : Below wr.heap.size wr (World.drew wr) := below_drew1 (Below.refl _ _)
      have SZ3 := Aside0.mk (show wr.heap.size ≤ (World.drew wr).heap.size from hs.size)
      replace BKg3 := Aside0.mk (blk_below BKg3.out hs)
      replace Hcx := Aside0.mk (pw_cell_below hs Hcx.out)
      replace Hcy := Aside0.mk (pw_cell_below hs Hcy.out)
      replace HO := Aside0.mk (Kd.R_below HO.out hs)
      have n_ := Aside0.mk (below_step HB.out hs)
      clear HB
      have HB := n_
      clear n_ hs
      refine start_ (n := 13) (S := fun w' => w'.cell? ⟨g3, 0, none⟩ = some (.int .i64 a) ∧ w'.cell? ⟨g3, 1, none⟩ = some (.int .i64 b) ∧ w'.cell? ⟨g3, 3, none⟩ = some (.int .i64 d) ∧ w'.cell? ⟨g3, 4, none⟩ = some (.slice (some ad) sl.length cm) ∧ w'.cell? (ad.add p) = some (.slice Bx x.length cx) ∧ w'.cell? ⟨(ad.add p).block, (ad.add p).off + 1, none⟩ = some (.slice By y.length cy)) (ds := [10, 11]) #[false, false, false, false, false, false, false, false, false, false, false, false, false] (by kernel_rfl) rfl rfl ⟨(blk_cell BKg3.out 0).trans rfl, (blk_cell BKg3.out 1).trans rfl, (blk_cell BKg3.out 3).trans rfl, (blk_cell BKg3.out 4).trans rfl, Hcx.out, Hcy.out⟩ (fun hHeld => ?_)
      generalize World.drew wr = w3 at HB BKg3 Hcx Hcy HO SZ3 hHeld ⊢
      refine pure_ (i := 0) (N := some 51) (v := ?_) (a' := ?_) #[true, false, false, false, false, false, false, false, false, false, false, false, false] rfl rfl (by kernel_rfl) (fun _ _ _ h => h) (Or.inl ⟨by rfl, ?_⟩) ?_ ?_
      rotate_left
      · intro w'
        go_simp
        with_reducible rfl
      rotate_left
      · simp only [Act.put, List.setIfInBounds_toArray, List.set_cons_zero, List.set_cons_succ, i64_w, i32_w]
        rfl
      refine pure_ (i := 1) (N := some 52) (v := ?_) (a' := ?_) #[true, true, false, false, false, false, false, false, false, false, false, false, false] rfl rfl (by kernel_rfl) (fun _ _ _ h => h) (Or.inl ⟨by rfl, ?_⟩) ?_ ?_
      rotate_left
      · intro w'
        go_simp
        with_reducible rfl
      rotate_left
      · simp only [Act.put, List.setIfInBounds_toArray, List.set_cons_zero, List.set_cons_succ, i64_w, i32_w]
        rfl
      refine pure_ (i := 2) (N := some 53) (v := ?_) (a' := ?_) #[true, true, true, false, false, false, false, false, false, false, false, false, false] rfl rfl (by kernel_rfl) (fun _ _ _ h => h) (Or.inl ⟨by rfl, ?_⟩) ?_ ?_
      rotate_left
      · intro w'
        go_simp
        with_reducible rfl
      rotate_left
      · simp only [Act.put, List.setIfInBounds_toArray, List.set_cons_zero, List.set_cons_succ, i64_w, i32_w]
        rfl
      refine pure_ (i := 5) (N := some 56) (v := ?_) (a' := ?_) #[true, true, true, false, false, true, false, false, false, false, false, false, false] rfl rfl (by kernel_rfl) (fun _ _ _ h => h) (Or.inl ⟨by rfl, ?_⟩) ?_ ?_
      rotate_left
      · intro w'
        go_simp
        with_reducible rfl
      rotate_left
      · simp only [Act.put, List.setIfInBounds_toArray, List.set_cons_zero, List.set_cons_succ, i64_w, i32_w]
        rfl
      refine pure_ (i := 6) (N := some 57) (v := ?_) (a' := ?_) #[true, true, true, false, false, true, true, false, false, false, false, false, false] rfl rfl (by kernel_rfl) (fun _ _ _ h => h) (Or.inl ⟨by rfl, ?_⟩) ?_ ?_
      rotate_left
      · intro w'
        go_simp
        with_reducible rfl
      rotate_left
      · simp only [Act.put, List.setIfInBounds_toArray, List.set_cons_zero, List.set_cons_succ, i64_w, i32_w]
        rfl
      refine take_ (i := 3) (N := some 54) (v := ?_) (a' := ?_) #[true, true, true, true, false, true, true, false, false, false, false, false, false] rfl rfl (by kernel_rfl) (fun _ _ _ h => h) (Or.inl ⟨by rfl, ?_⟩) hHeld ?_ ?_
      rotate_left
      · rintro w' ⟨s0, s1, s2, s3, s4, s5⟩
        go_simp
        with_reducible rfl
      rotate_left
      · simp only [Act.put, List.setIfInBounds_toArray, List.set_cons_zero, List.set_cons_succ, i64_w, i32_w]
        rfl
      refine take_ (i := 7) (N := some 58) (v := ?_) (a' := ?_) #[true, true, true, true, false, true, true, true, false, false, false, false, false] rfl rfl (by kernel_rfl) (fun _ _ _ h => h) (Or.inl ⟨by rfl, ?_⟩) hHeld ?_ ?_
      rotate_left
      · rintro w' ⟨s0, s1, s2, s3, s4, s5⟩
        go_simp
        with_reducible rfl
      rotate_left
      · simp only [Act.put, List.setIfInBounds_toArray, List.set_cons_zero, List.set_cons_succ, i64_w, i32_w]
        rfl
      refine one_ (i := 4) (N := some 55) #[true, true, true, true, true, true, true, true, false, false, false, false, false] rfl rfl (by kernel_rfl) (by decide) (fun K hK => ?_)
      refine goes_ Try.func46 (by kernel_rfl) rfl #[.slice Bx x.length cx] (by rfl) rfl rfl (by simp only [List.map_toArray, List.map_cons, List.map_nil]; rfl) ?_
      with_reducible refine (image_taken.calls Bx cx x x _ ?s1 ALx.out ACx.out).mono ?_
      (case s1 => exact Kd.C_below HCx.out (by repeat (first | exact HB.out | apply below_alloc | apply pw_below_drewN | apply below_drew1)))
      rintro e w4 ⟨v5, rfl, hv, hb⟩
      refine ⟨_, rfl, ?_⟩
      have hs : Below w3.heap.size w3 w4 := below_step (by repeat (first | exact Below.refl _ _ | apply below_alloc | apply pw_below_drewN | apply below_drew1)) hb
      have hl : w3.heap.size ≤ _ := below_size (w := w3) (by repeat (first | exact Below.refl _ _ | apply below_alloc | apply pw_below_drewN | apply below_drew1))
      have SZ4 := Aside0.mk (show w3.heap.size ≤ w4.heap.size from hs.size)
      replace BKg3 := Aside0.mk (blk_below BKg3.out hs)
      replace Hcx := Aside0.mk (pw_cell_below hs Hcx.out)
      replace Hcy := Aside0.mk (pw_cell_below hs Hcy.out)
      replace HO := Aside0.mk (Kd.R_below HO.out hs)
      have HX := Aside0.mk (R_iv (base := w.heap.size) hv (by have h1 := hl; have := HZ3.out; have := HWR.out; have := SZ3.out; omega) hl)
      clear hv
      obtain ⟨A5, c5, e5_⟩ := Kd.R_slice HX.out
      subst e5_
      have n_ := Aside0.mk (below_step HB.out hs)
      clear HB
      have HB := n_
      clear n_ hs hb
      (try clear hl)
      refine hK.out _ _ ⟨(blk_cell BKg3.out 0).trans rfl, (blk_cell BKg3.out 1).trans rfl, (blk_cell BKg3.out 3).trans rfl, (blk_cell BKg3.out 4).trans rfl, Hcx.out, Hcy.out⟩ (fun hHeld => ?_)
      clear hK K
      refine norm_ (a' := ?_) ?_ ?_
      rotate_left
      · show Act.put _ (some 55) _ = _
        simp only [Act.put, List.setIfInBounds_toArray, List.set_cons_zero, List.set_cons_succ, i64_w, i32_w]
        rfl
      refine one_ (i := 8) (N := some 59) #[true, true, true, true, true, true, true, true, true, false, false, false, false] rfl rfl (by kernel_rfl) (by decide) (fun K hK => ?_)
      refine goes_ Try.func46 (by kernel_rfl) rfl #[.slice By y.length cy] (by rfl) rfl rfl (by simp only [List.map_toArray, List.map_cons, List.map_nil]; rfl) ?_
      with_reducible refine (image_taken.calls By cy y y _ ?s1 ALy.out ACy.out).mono ?_
      (case s1 => exact Kd.C_below HCy.out (by repeat (first | exact HB.out | apply below_alloc | apply pw_below_drewN | apply below_drew1)))
      rintro e w5 ⟨v6, rfl, hv, hb⟩
      refine ⟨_, rfl, ?_⟩
      have hs : Below w4.heap.size w4 w5 := below_step (by repeat (first | exact Below.refl _ _ | apply below_alloc | apply pw_below_drewN | apply below_drew1)) hb
      have hl : w4.heap.size ≤ _ := below_size (w := w4) (by repeat (first | exact Below.refl _ _ | apply below_alloc | apply pw_below_drewN | apply below_drew1))
      have SZ5 := Aside0.mk (show w4.heap.size ≤ w5.heap.size from hs.size)
      replace BKg3 := Aside0.mk (blk_below BKg3.out hs)
      replace Hcx := Aside0.mk (pw_cell_below hs Hcx.out)
      replace Hcy := Aside0.mk (pw_cell_below hs Hcy.out)
      replace HO := Aside0.mk (Kd.R_below HO.out hs)
      replace HX := Aside0.mk (Kd.R_below HX.out hs)
      have HY := Aside0.mk (R_iv (base := w.heap.size) hv (by have h1 := hl; have := HZ3.out; have := HWR.out; have := SZ3.out; have := SZ4.out; omega) hl)
      clear hv
      obtain ⟨A6, c6, e6_⟩ := Kd.R_slice HY.out
      subst e6_
      have n_ := Aside0.mk (below_step HB.out hs)
      clear HB
      have HB := n_
      clear n_ hs hb
      (try clear hl)
      refine hK.out _ _ ⟨(blk_cell BKg3.out 0).trans rfl, (blk_cell BKg3.out 1).trans rfl, (blk_cell BKg3.out 3).trans rfl, (blk_cell BKg3.out 4).trans rfl, Hcx.out, Hcy.out⟩ (fun hHeld => ?_)
      clear hK K
      refine norm_ (a' := ?_) ?_ ?_
      rotate_left
      · show Act.put _ (some 59) _ = _
        simp only [Act.put, List.setIfInBounds_toArray, List.set_cons_zero, List.set_cons_succ, i64_w, i32_w]
        rfl
      refine pure_ (i := 9) (N := some 60) (v := ?_) (a' := ?_) #[true, true, true, true, true, true, true, true, true, true, false, false, false] rfl rfl (by kernel_rfl) (fun _ _ _ h => h) (Or.inl ⟨by rfl, ?_⟩) ?_ ?_
      rotate_left
      · intro w'
        go_simp
        with_reducible rfl
      rotate_left
      · simp only [Act.put, List.setIfInBounds_toArray, List.set_cons_zero, List.set_cons_succ, i64_w, i32_w]
        rfl
      refine last_ (i := 10) (N := some 61) #[true, true, true, true, true, true, true, true, true, true, true, false, false] rfl rfl (by kernel_rfl) (by decide) (fun K hK => ?_)
      refine value_ (w1 := ?_) (v := ?_) (by rfl) rfl ?_ ?_
      rotate_left 2
      · go_simp
        constructor
        · rfl
        · rfl
      refine hK.out _ _ ?_
      clear hK K
      refine norm_ (a' := ?_) ?_ ?_
      rotate_left
      · show Act.put _ (some 61) _ = _
        simp only [Act.put, List.setIfInBounds_toArray, List.set_cons_zero, List.set_cons_succ, i64_w, i32_w]
        rfl
      refine last_ (i := 11) (N := some 62) #[true, true, true, true, true, true, true, true, true, true, true, true, false] rfl rfl (by kernel_rfl) (by decide) (fun K hK => ?_)
      refine Kd.R_append_step kPair (w0 := w) w.heap.size (by rfl) (.tmp 51) (.tmp 61) 42 59 (.agg #[.slice none 0 0, .slice none 0 0]) 48 rfl Try.underlying42 info59 rfl (by decide) (by omega) vv (rowOf at_ sl k) (x, y) [.slice A5 x.length c5, .slice A6 y.length c6] (fun _ => True) (fun q => some q ≠ vv.ownBlock) rfl rfl ⟨_, _, rfl, ⟨_, rfl, (Kd.R_mono HX.out (fun q hq he => by have h1 := Kd.R_lt HOr.out q he.symm; have h2 := hq.1; have := SZ3.out; have := SZ4.out; omega))⟩, ⟨_, rfl, (Kd.R_mono HY.out (fun q hq he => by have h1 := Kd.R_lt HOr.out q he.symm; have h2 := hq.1; have := SZ3.out; have := SZ4.out; omega))⟩⟩ (fun q hq => ⟨trivial, hq⟩) (fun _ _ => trivial) HO.out HB.out HB.out.size (by have h1 := AX.out; have h2 := HM.out; rw [rowOf_len]; omega) ?_
      intro v9 w9 ho hb hg hat_
      have HO9 := Aside0.mk ho
      have HB9 := Aside0.mk hb
      have BK9 := Aside0.mk (blk_grown BKg3.out hg (Kd.R_ne HO.out BKg3.out (by decide)))
      clear ho hb hg hat_
      refine hK.out _ _ ?_
      clear hK K
      refine norm_ (a' := ?_) ?_ ?_
      rotate_left
      · show Act.put _ (some 62) _ = _
        simp only [Act.put, List.setIfInBounds_toArray, List.set_cons_zero, List.set_cons_succ, i64_w, i32_w]
        rfl
      refine pure_ (i := 12) (N := some 7) (v := ?_) (a' := ?_) #[true, true, true, true, true, true, true, true, true, true, true, true, true] rfl rfl (by kernel_rfl) (fun _ _ _ h => h) (Or.inl ⟨by rfl, ?_⟩) ?_ ?_
      rotate_left
      · intro w'
        go_simp
        with_reducible rfl
      rotate_left
      · simp only [Act.put, List.setIfInBounds_toArray, List.set_cons_zero, List.set_cons_succ, i64_w, i32_w]
        rfl
      refine done_ (by kernel_rfl) ?_
      have hcg3_0 : w5.cell? ⟨g3, 0, none⟩ = some (.int .i64 a) := (blk_cell BKg3.out 0).trans rfl
      have hfg3_0 := blk_frozen BKg3.out 0
      have hcg3_1 : w5.cell? ⟨g3, 1, none⟩ = some (.int .i64 b) := (blk_cell BKg3.out 1).trans rfl
      have hfg3_1 := blk_frozen BKg3.out 1
      have hcg3_3 : w5.cell? ⟨g3, 3, none⟩ = some (.int .i64 d) := (blk_cell BKg3.out 3).trans rfl
      have hfg3_3 := blk_frozen BKg3.out 3
      have hcg3_4 : w5.cell? ⟨g3, 4, none⟩ = some (.slice (some ad) sl.length cm) := (blk_cell BKg3.out 4).trans rfl
      have hfg3_4 := blk_frozen BKg3.out 4
      have xHcx := Hcx.out
      have xHcy := Hcy.out
      (try clear hcg3_0 hfg3_0)
      (try clear hcg3_1 hfg3_1)
      (try clear hcg3_3 hfg3_3)
      (try clear hcg3_4 hfg3_4)
      (try clear xHcx)
      (try clear xHcy)
      clear HB HO BKg3
      go_wp2_with (fail)
      have hkk := HK.out
      have hax := AX.out
      have hmm := HM.out
      go_roundg (gk - 1)
      case measure => omega
      case rel =>
        refine ⟨k + 1, _, rfl, by rw [show wrap64 ((k : Int) + 1) = ((k + 1 : Nat) : Int) by unfold wrap64; omega], Aside0.mk ⟨by omega, by omega⟩, BK9, Aside0.mk ?_, HB9⟩
        rw [rowOf_succ, ← HPA.out, HPX.out, HPY.out]
        exact HO9.out
    · have b1 : decide ((k : Int) < wrap64 (a + b)) = false := by rw [HN.out]; exact decide_eq_false (by omega)
      have b2 : decide (k < m) = false := decide_eq_false hlt
      have e : k = m := by
        have := AX.out
        omega
      subst e
      clear hlt
      go_wp2
      go_ret2
      exact ⟨_, rfl, HO.out, HB.out⟩
def alX : List Int := List.replicate 40 1
def alY : List Int := List.replicate 40 2
def alB : List (List Int) := List.replicate 48 []
def alA : List (List Int) := alB.set 20 alX
def alC : List (List Int) := (alB.set 20 alX).set 20 alY
theorem lit_C2 {W : World} {g : Nat} {x y : S35} {A3 A4 : Option Addr} {c3 c4 : Nat} (h : W.heap[g]? = some (.cells #[.int .i64 x.f0, .int .i64 x.f1, .int .i64 x.f2, .slice A3 x.f3.length c3, .int .i64 y.f0, .int .i64 y.f1, .int .i64 y.f2, .slice A4 y.f3.length c4] 35 (0, 0))) (hle : x.f3.length ≤ c3) (hC : Kd.C (Kd.int .u8) W A3 x.f3.length x.f3) (hle4 : y.f3.length ≤ c4) (hC4 : Kd.C (Kd.int .u8) W A4 y.f3.length y.f3) : Kd.C k35 W (some ⟨g, 0, none⟩) [x, y].length [x, y] := by
  have hadd : ∀ n : Nat, ((⟨g, 0, none⟩ : Addr).add n) = ⟨g, n, none⟩ := fun n => by
    unfold Addr.add
    by_cases hi : n = 0
    · subst hi
      simp
    · rw [if_neg hi]
      simp
  refine ⟨rfl, by simp, fun _ => ⟨_, rfl, fun j p hj => ?_⟩⟩
  obtain ⟨hj1, hj2⟩ := List.getElem?_eq_some_iff.mp hj
  have hj3 : j = 0 ∨ j = 1 := by
    have : j < 2 := by simpa using hj1
    omega
  rcases hj3 with rfl | rfl
  · obtain rfl : x = p := hj2
    refine ⟨_, rfl, k35_mk W x hle hC, fun i u hu => ?_⟩
    rw [hadd, blk_cell h]
    have hi : i < 4 := (List.getElem?_eq_some_iff.mp hu).1
    have : i = 0 ∨ i = 1 ∨ i = 2 ∨ i = 3 := by omega
    rcases this with rfl | rfl | rfl | rfl <;> exact hu
  · obtain rfl : y = p := hj2
    refine ⟨_, rfl, k35_mk W y hle4 hC4, fun i u hu => ?_⟩
    rw [hadd, blk_cell h]
    have hi : i < 4 := (List.getElem?_eq_some_iff.mp hu).1
    have : i = 0 ∨ i = 1 ∨ i = 2 ∨ i = 3 := by omega
    rcases this with rfl | rfl | rfl | rfl <;> exact hu
theorem alive_blank : image_Blank.f 2 1 16 8 = some (2, 1, 16, 8, alB, 0) := by kernel_rfl
theorem alive_full1 : twoslotlaw09_full.f 100 1 = some alX := by kernel_rfl
theorem alive_full2 : twoslotlaw09_full.f 100 2 = some alY := by kernel_rfl
theorem alive_put : image_Put.f 100 2 1 16 8 alB 1 2 0 alX = some (2, 1, 16, 8, alA, 0) := by kernel_rfl
theorem alive_after : image_After.f 100 2 1 16 8 alB [⟨1, 2, 0, alX⟩, ⟨1, 2, 0, alY⟩] 2 = some (2, 1, 16, 8, alC, 0) := by kernel_rfl
theorem alive_diff : image_Diff.f 100 2 1 16 8 alB 2 1 16 8 alC = some ([⟨1, 2, 0, alY⟩], 0) := by kernel_rfl
theorem alive_wiped : image_Wiped.f 100 2 1 16 8 alA 1 = some (2, 1, 16, 8, alB, 0) := by kernel_rfl
theorem alive_diff2 : image_Diff.f 100 2 1 16 8 alA 2 1 16 8 alB = some ([], 90) := by kernel_rfl
theorem alive_sort : ([2, 2] : List Int).mergeSort (fun x y => decide (x ≤ y)) = [2, 2] := by
  simp [List.mergeSort, List.MergeSort.Internal.splitInTwo, List.merge]
theorem alive_rows : image_Rows.f 100 [⟨1, 2, 0, alX⟩, ⟨1, 2, 0, alX⟩] = some ([2], 0) := by
  have h : image_Rows.l0 100 [] [⟨1, 2, 0, alX⟩, ⟨1, 2, 0, alX⟩] 2 0 = ((slices_Sort_int_int.f [2, 2]).bind fun q => (slices_Compact_int_int.f q).bind fun r => some (r, 0)) := by kernel_rfl
  have hs : slices_Sort_int_int.f [2, 2] = some [2, 2] := by
    unfold slices_Sort_int_int.f
    rw [alive_sort]
    rfl
  unfold image_Rows.f
  rw [if_neg (by decide)]
  show image_Rows.l0 100 [] [⟨1, 2, 0, alX⟩, ⟨1, 2, 0, alX⟩] 2 0 = _
  rw [h, hs]
  kernel_rfl
theorem alive_same1 : image_Same.f 100 2 1 16 8 alB 2 1 16 8 alB = some true := by kernel_rfl
theorem alive_same2 : image_Same.f 100 2 1 16 8 alA 2 1 16 8 alB = some false := by kernel_rfl
theorem alive_check : image_Check.f 100 2 1 16 8 alA = some 0 := by kernel_rfl
def aAt (i : Nat) : Nat := 16 * i + 4
theorem alive_at : ∀ i, i < 3 → rowAt 8 2 i = (aAt i : Int) ∧ aAt i + 2 ≤ alA.length := by
  intro i hi
  have : i = 0 ∨ i = 1 ∨ i = 2 := by omega
  rcases this with rfl | rfl | rfl <;> exact ⟨by kernel_rfl, by decide⟩
theorem alive_el : ∀ x ∈ alA, x.length ≤ 1000000 := by
  intro x hx
  rcases List.mem_or_eq_of_mem_set hx with hx | rfl
  · rw [List.eq_of_mem_replicate hx]
    simp
  · decide
theorem alive_wrap : wrap64 ((2 : Int) + 1) = ((3 : Nat) : Int) := by kernel_rfl
theorem alive_n0 : (0 : Int) ≤ 2 := by decide
theorem alive_n1 : (2 : Int) < 8 := by decide
theorem alive_n2 : 3 ≤ 10000 := by decide
theorem alive_len : alA.length ≤ 100000 := by
  unfold alA alB
  rw [List.length_set, List.length_replicate]
  decide
theorem alive_row : rowOf aAt alA 3 = [([], []), (alX, []), ([], [])] := by kernel_rfl
theorem al_a0 (a : Addr) : a.add 0 = a := by simp [Addr.add]
theorem al_a2 (a : Addr) : a.add 2 = ⟨a.block, a.off + 2, none⟩ := by simp [Addr.add]
theorem al_a39 (a : Addr) : a.add 39 = ⟨a.block, a.off + 39, none⟩ := by simp [Addr.add]
theorem pair_elem {w : World} {A : Option Addr} {xs : List (List Int × List Int)} (h : Kd.C kPair w A xs.length xs) (i : Nat) (hi : i < xs.length) :
    ∃ (ad : Addr) (B1 : Option Addr) (c1 : Nat) (B2 : Option Addr) (c2 : Nat), A = some ad ∧ w.cell? (ad.add (i * 2)) = some (.slice B1 (xs[i]).1.length c1) ∧ w.cell? ⟨(ad.add (i * 2)).block, (ad.add (i * 2)).off + 1, none⟩ = some (.slice B2 (xs[i]).2.length c2) ∧ Kd.C (Kd.int .u8) w B1 (xs[i]).1.length (xs[i]).1 := by
  obtain ⟨ad, cs, e, hl, hK, hc⟩ := Kd.C_get h ([], []) (i : Int) (by omega) (by omega)
  have e1 : xs.getD ((i : Int).toNat) ([], []) = xs[i] := by simp [hi]
  rw [e1] at hK
  obtain ⟨_, _, rfl, ⟨B1, c1, rfl, hl1, hC1⟩, ⟨B2, c2, rfl, hl2, hC2⟩⟩ := hK
  have h0 := hc 0 _ rfl
  have h1 := hc 1 _ rfl
  rw [Int.toNat_natCast] at h0 h1
  exact ⟨ad, B1, c1, B2, c2, e, h0, by rw [← add_field _ _ 1 (by omega)]; exact h1, hC1⟩
theorem byte_at {w : World} {A : Option Addr} {xs : List Int} (h : Kd.C (Kd.int .u8) w A xs.length xs) (i : Nat) (hi : i < xs.length) : ∃ ad : Addr, A = some ad ∧ w.cell? (ad.add i) = some (.int .u8 (xs.getD i 0)) := by
  obtain ⟨ad, cs, e, hl, hK, hc⟩ := Kd.C_get h (0 : Int) (i : Int) (by omega) (by omega)
  obtain rfl := hK
  have h0 := hc 0 _ rfl
  rw [Int.toNat_natCast] at h0
  refine ⟨ad, e, ?_⟩
  simpa [Kd.int, Kd.scalar] using h0
theorem After_two (a b c d : Int) (Am : Option Addr) (cm : Nat) (sl : List (List Int)) (g : Nat) (A3 A4 : Option Addr) (c3 c4 : Nat) (w : World) (hCm : Kd.C (Kd.slice 5 (Kd.int .u8)) w Am sl.length sl) (hcm : sl.length ≤ cm)
    (h : w.heap[g]? = some (.cells #[.int .i64 1, .int .i64 2, .int .i64 0, .slice A3 alX.length c3, .int .i64 1, .int .i64 2, .int .i64 0, .slice A4 alY.length c4] 35 (0, 0))) (hle : alX.length ≤ c3) (hC : Kd.C (Kd.int .u8) w A3 alX.length alX) (hle4 : alY.length ≤ c4) (hC4 : Kd.C (Kd.int .u8) w A4 alY.length alY) (hf : image_After.f 100 a b c d sl [⟨1, 2, 0, alX⟩, ⟨1, 2, 0, alY⟩] 2 = some (2, 1, 16, 8, alC, 0)) :
    Calls Try.prog 13 #[.agg #[.int .i64 a, .int .i64 b, .int .i64 c, .int .i64 d, .slice Am sl.length cm], .slice (some ⟨g, 0, none⟩) 2 2, .int .i64 2] w fun e w' => ∃ v4_ : Value, e = .returned (.tuple #[.agg #[.int .i64 2, .int .i64 1, .int .i64 16, .int .i64 8, v4_], .int .i64 0]) ∧ Kd.R (Kd.slice 5 (Kd.int .u8)) 33 w' w.heap.size (fun _ => True) v4_ alC ∧ Below w.heap.size w w' :=
  image_After.calls 100 a b c d Am cm sl (some ⟨g, 0, none⟩) 2 [⟨1, 2, 0, alX⟩, ⟨1, 2, 0, alY⟩] 2 2 1 16 8 alC 0 w hCm hcm (lit_C2 (x := ⟨1, 2, 0, alX⟩) (y := ⟨1, 2, 0, alY⟩) h hle hC hle4 hC4) (Nat.le_refl _) hf
theorem Rows_two (g : Nat) (A3 : Option Addr) (c3 : Nat) (w : World) (h : w.heap[g]? = some (.cells #[.int .i64 1, .int .i64 2, .int .i64 0, .slice A3 alX.length c3, .int .i64 1, .int .i64 2, .int .i64 0, .slice A3 alX.length c3] 35 (0, 0))) (hle : alX.length ≤ c3) (hC : Kd.C (Kd.int .u8) w A3 alX.length alX) :
    Calls Try.prog 12 #[.slice (some ⟨g, 0, none⟩) 2 2] w fun e w' => ∃ v0_ : Value, e = .returned (.tuple #[v0_, .int .i64 0]) ∧ Kd.R (Kd.int .i64) 3 w' w.heap.size (fun _ => True) v0_ [2] ∧ Below w.heap.size w w' :=
  image_Rows.calls 100 (some ⟨g, 0, none⟩) 2 [⟨1, 2, 0, alX⟩, ⟨1, 2, 0, alX⟩] [2] 0 w (lit_C2 (x := ⟨1, 2, 0, alX⟩) (y := ⟨1, 2, 0, alX⟩) h hle hC hle hC) (Nat.le_refl _) alive_rows
set_option maxHeartbeats 8000000 in
set_option maxRecDepth 100000 in
theorem alive_walk (w : World) : Calls Try.prog 9 #[] w fun e w' => e = .returned (.bool true) ∧ Below w.heap.size w w' := by
  have hu27 := Try.underlying27
  have hu24 := Try.underlying24
  have hu35 := Try.underlying35
  have HB := Aside0.mk (Below.refl w.heap.size w)
  have lX : alX.length = 40 := rfl
  have lY : alY.length = 40 := rfl
  have lB : alB.length = 48 := rfl
  have lA : alA.length = 48 := by simp [alA, alB]
  have lC : alC.length = 48 := by simp [alC, alB]
  have LX := Aside0.mk lX
  have LY := Aside0.mk lY
  have LB := Aside0.mk lB
  have LA := Aside0.mk lA
  have LC := Aside0.mk lC
  clear lX lY lB lA lC
  go_enter Try.func9, Try.ntmps9
  have tok1 : True := trivial
  go_wp2_with (first | (have _ := tok1; go_at_call 11; (with_reducible refine (twoslotlaw09_sample.calls 2 1 16 8 _ rfl).mono ?_); rintro e w1 ⟨rfl, hb⟩; have hs : Below w.heap.size w w1 := below_step (by repeat (first | exact Below.refl _ _ | apply below_alloc | apply pw_below_drewN | apply below_drew1)) hb; have hl : w.heap.size ≤ _ := below_size (w := w) (by repeat (first | exact Below.refl _ _ | apply below_alloc | apply pw_below_drewN | apply below_drew1)); have SZ1 := Aside0.mk (show w.heap.size ≤ w1.heap.size from hs.size); replace HB := Aside0.mk (below_step HB.out hs); clear hb hs; (try clear hl); clear tok1; have tok2 : True := trivial) | (have _ := tok2; go_at_call 10; (with_reducible refine (image_Blank.calls 2 1 16 8 2 1 16 8 alB 0 _ alive_blank).mono ?_); rintro e w2 ⟨v_m, rfl, ho, hb⟩; have hs : Below w1.heap.size w1 w2 := below_step (by repeat (first | exact Below.refl _ _ | apply below_alloc | apply pw_below_drewN | apply below_drew1)) hb; have hl : w1.heap.size ≤ _ := below_size (w := w1) (by repeat (first | exact Below.refl _ _ | apply below_alloc | apply pw_below_drewN | apply below_drew1)); have SZ2 := Aside0.mk (show w1.heap.size ≤ w2.heap.size from hs.size); have HOm := Aside0.mk (R_iv (Kd.S_R ho) (below_size (by repeat (first | exact HB.out | apply below_alloc | apply pw_below_drewN | apply below_drew1))) hl); replace HB := Aside0.mk (below_step HB.out hs); clear ho; obtain ⟨m_A, m_c, e_⟩ := Kd.R_slice HOm.out; subst e_; clear hb hs; (try clear hl); clear tok2; have tok3 : True := trivial) | (have _ := tok3; (with_reducible refine gate_dst (N := 1) rfl ?_); refine box_event ?hg (N := 1) ?hd (cs := #[.int .i64 0, .int .i64 0, .int .i64 0, .int .i64 0, .slice none 0 0]) (t := 27) ?hr ?_; (case hd => rfl); (case hg => rfl); (case hr => first | (go_simp; done) | (go_simp; rfl)); intro g1 hg w3 hbox hb; have hs : Below w2.heap.size w2 w3 := below_step (by repeat (first | exact Below.refl _ _ | apply below_alloc | apply pw_below_drewN | apply below_drew1)) hb; have SZ3 := Aside0.mk (show w2.heap.size ≤ g1 ∧ g1 < w3.heap.size from ⟨by rw [hg]; exact (below_size (by repeat (first | exact Below.refl _ _ | apply below_alloc | apply pw_below_drewN | apply below_drew1))), blk_lt hbox⟩); replace HOm := Aside0.mk (Kd.R_below HOm.out hs); replace HB := Aside0.mk (below_step HB.out hs); have BKg1 := Aside0.mk hbox; clear hb hbox hg hs; have hcg1_0 : w3.cell? ⟨g1, 0, none⟩ = some (.int .i64 0) := (blk_cell BKg1.out 0).trans rfl; have hfg1_0 := blk_frozen BKg1.out 0; have hcg1_1 : w3.cell? ⟨g1, 1, none⟩ = some (.int .i64 0) := (blk_cell BKg1.out 1).trans rfl; have hfg1_1 := blk_frozen BKg1.out 1; have hcg1_2 : w3.cell? ⟨g1, 2, none⟩ = some (.int .i64 0) := (blk_cell BKg1.out 2).trans rfl; have hfg1_2 := blk_frozen BKg1.out 2; have hcg1_3 : w3.cell? ⟨g1, 3, none⟩ = some (.int .i64 0) := (blk_cell BKg1.out 3).trans rfl; have hfg1_3 := blk_frozen BKg1.out 3; have hcg1_4 : w3.cell? ⟨g1, 4, none⟩ = some (.slice none 0 0) := (blk_cell BKg1.out 4).trans rfl; have hfg1_4 := blk_frozen BKg1.out 4; clear tok3))
  (try clear hcg1_0 hfg1_0)
  (try clear hcg1_1 hfg1_1)
  (try clear hcg1_2 hfg1_2)
  (try clear hcg1_3 hfg1_3)
  (try clear hcg1_4 hfg1_4)
  replace HOm := Aside0.mk (Kd.R_far HOm.out (p := ⟨g1, 0, none⟩) (Iv_ne (g := g1) (by have := SZ1.out; have := SZ2.out; have := SZ3.out; omega)) (.int .i64 2))
  replace BKg1 := Aside0.mk (blk_put BKg1.out 0 (.int .i64 2) rfl)
  replace HB := Aside0.mk (below_set HB.out (by have := SZ1.out; have := SZ2.out; have := SZ3.out; omega : w.heap.size ≤ g1) (j := 0) (v := .int .i64 2))
  replace HOm := Aside0.mk (Kd.R_far HOm.out (p := ⟨g1, 1, none⟩) (Iv_ne (g := g1) (by have := SZ1.out; have := SZ2.out; have := SZ3.out; omega)) (.int .i64 1))
  replace BKg1 := Aside0.mk (blk_put BKg1.out 1 (.int .i64 1) rfl)
  replace HB := Aside0.mk (below_set HB.out (by have := SZ1.out; have := SZ2.out; have := SZ3.out; omega : w.heap.size ≤ g1) (j := 1) (v := .int .i64 1))
  replace HOm := Aside0.mk (Kd.R_far HOm.out (p := ⟨g1, 2, none⟩) (Iv_ne (g := g1) (by have := SZ1.out; have := SZ2.out; have := SZ3.out; omega)) (.int .i64 16))
  replace BKg1 := Aside0.mk (blk_put BKg1.out 2 (.int .i64 16) rfl)
  replace HB := Aside0.mk (below_set HB.out (by have := SZ1.out; have := SZ2.out; have := SZ3.out; omega : w.heap.size ≤ g1) (j := 2) (v := .int .i64 16))
  replace HOm := Aside0.mk (Kd.R_far HOm.out (p := ⟨g1, 3, none⟩) (Iv_ne (g := g1) (by have := SZ1.out; have := SZ2.out; have := SZ3.out; omega)) (.int .i64 8))
  replace BKg1 := Aside0.mk (blk_put BKg1.out 3 (.int .i64 8) rfl)
  replace HB := Aside0.mk (below_set HB.out (by have := SZ1.out; have := SZ2.out; have := SZ3.out; omega : w.heap.size ≤ g1) (j := 3) (v := .int .i64 8))
  replace HOm := Aside0.mk (Kd.R_far HOm.out (p := ⟨g1, 4, none⟩) (Iv_ne (g := g1) (by have := SZ1.out; have := SZ2.out; have := SZ3.out; omega)) (.slice m_A alB.length m_c))
  replace BKg1 := Aside0.mk (blk_put BKg1.out 4 (.slice m_A alB.length m_c) rfl)
  replace HB := Aside0.mk (below_set HB.out (by have := SZ1.out; have := SZ2.out; have := SZ3.out; omega : w.heap.size ≤ g1) (j := 4) (v := .slice m_A alB.length m_c))
  have SZ4 := Aside0.mk (show w3.heap.size ≤ (((((w3.setCell ⟨g1, 0, none⟩ (.int .i64 2)).setCell ⟨g1, 1, none⟩ (.int .i64 1)).setCell ⟨g1, 2, none⟩ (.int .i64 16)).setCell ⟨g1, 3, none⟩ (.int .i64 8)).setCell ⟨g1, 4, none⟩ (.slice m_A alB.length m_c)).heap.size from by simp [World.setCell])
  generalize (((((w3.setCell ⟨g1, 0, none⟩ (.int .i64 2)).setCell ⟨g1, 1, none⟩ (.int .i64 1)).setCell ⟨g1, 2, none⟩ (.int .i64 16)).setCell ⟨g1, 3, none⟩ (.int .i64 8)).setCell ⟨g1, 4, none⟩ (.slice m_A alB.length m_c)) = w4 at HB HOm BKg1 SZ4 ⊢
  have hcg1_0 : w4.cell? ⟨g1, 0, none⟩ = some (.int .i64 2) := (blk_cell BKg1.out 0).trans rfl
  have hfg1_0 := blk_frozen BKg1.out 0
  have hcg1_1 : w4.cell? ⟨g1, 1, none⟩ = some (.int .i64 1) := (blk_cell BKg1.out 1).trans rfl
  have hfg1_1 := blk_frozen BKg1.out 1
  have hcg1_2 : w4.cell? ⟨g1, 2, none⟩ = some (.int .i64 16) := (blk_cell BKg1.out 2).trans rfl
  have hfg1_2 := blk_frozen BKg1.out 2
  have hcg1_3 : w4.cell? ⟨g1, 3, none⟩ = some (.int .i64 8) := (blk_cell BKg1.out 3).trans rfl
  have hfg1_3 := blk_frozen BKg1.out 3
  have hcg1_4 : w4.cell? ⟨g1, 4, none⟩ = some (.slice m_A alB.length m_c) := (blk_cell BKg1.out 4).trans rfl
  have hfg1_4 := blk_frozen BKg1.out 4
  (try clear hcg1_0 hfg1_0)
  (try clear hcg1_1 hfg1_1)
  (try clear hcg1_2 hfg1_2)
  (try clear hcg1_3 hfg1_3)
  (try clear hcg1_4 hfg1_4)
  
  have tok4 : True := trivial
  go_wp2_with (first | (have _ := tok4; go_at_call 38; (with_reducible refine (twoslotlaw09_full.calls 100 1 alX _ alive_full1).mono ?_); rintro e w5 ⟨v_x, rfl, ho, hb⟩; have hs : Below w4.heap.size w4 w5 := below_step (by repeat (first | exact Below.refl _ _ | apply below_alloc | apply pw_below_drewN | apply below_drew1)) hb; have hl : w4.heap.size ≤ _ := below_size (w := w4) (by repeat (first | exact Below.refl _ _ | apply below_alloc | apply pw_below_drewN | apply below_drew1)); have SZ5 := Aside0.mk (show w4.heap.size ≤ w5.heap.size from hs.size); replace HOm := Aside0.mk (Kd.R_below HOm.out hs); replace BKg1 := Aside0.mk (blk_below BKg1.out hs); have HOx := Aside0.mk (R_iv ho (below_size (by repeat (first | exact HB.out | apply below_alloc | apply pw_below_drewN | apply below_drew1))) hl); replace HB := Aside0.mk (below_step HB.out hs); clear ho; obtain ⟨x_A, x_c, e_⟩ := Kd.R_slice HOx.out; subst e_; clear hb hs; (try clear hl); clear tok4; have tok5 : True := trivial) | (have _ := tok5; (with_reducible refine gate_dst (N := 3) rfl ?_); refine box_event ?hg (N := 3) ?hd (cs := #[.int .i64 0, .int .i64 0, .int .i64 0, .slice none 0 0]) (t := 35) ?hr ?_; (case hd => rfl); (case hg => rfl); (case hr => first | (go_simp; done) | (go_simp; rfl)); intro g3 hg w6 hbox hb; have hs : Below w5.heap.size w5 w6 := below_step (by repeat (first | exact Below.refl _ _ | apply below_alloc | apply pw_below_drewN | apply below_drew1)) hb; have SZ6 := Aside0.mk (show w5.heap.size ≤ g3 ∧ g3 < w6.heap.size from ⟨by rw [hg]; exact (below_size (by repeat (first | exact Below.refl _ _ | apply below_alloc | apply pw_below_drewN | apply below_drew1))), blk_lt hbox⟩); replace HOm := Aside0.mk (Kd.R_below HOm.out hs); replace BKg1 := Aside0.mk (blk_below BKg1.out hs); replace HOx := Aside0.mk (Kd.R_below HOx.out hs); replace HB := Aside0.mk (below_step HB.out hs); have hneg1_g3 : g1 ≠ g3 := (by have := SZ6.out; have := SZ1.out; have := SZ2.out; have := SZ3.out; have := SZ4.out; have := SZ5.out; omega); have hneg3_g1 : g3 ≠ g1 := hneg1_g3.symm; have BKg3 := Aside0.mk hbox; clear hb hbox hg hs; have hcg3_0 : w6.cell? ⟨g3, 0, none⟩ = some (.int .i64 0) := (blk_cell BKg3.out 0).trans rfl; have hfg3_0 := blk_frozen BKg3.out 0; have hcg3_1 : w6.cell? ⟨g3, 1, none⟩ = some (.int .i64 0) := (blk_cell BKg3.out 1).trans rfl; have hfg3_1 := blk_frozen BKg3.out 1; have hcg3_2 : w6.cell? ⟨g3, 2, none⟩ = some (.int .i64 0) := (blk_cell BKg3.out 2).trans rfl; have hfg3_2 := blk_frozen BKg3.out 2; have hcg3_3 : w6.cell? ⟨g3, 3, none⟩ = some (.slice none 0 0) := (blk_cell BKg3.out 3).trans rfl; have hfg3_3 := blk_frozen BKg3.out 3; clear tok5))
  (try clear hcg3_0 hfg3_0)
  (try clear hcg3_1 hfg3_1)
  (try clear hcg3_2 hfg3_2)
  (try clear hcg3_3 hfg3_3)
  replace HOm := Aside0.mk (Kd.R_far HOm.out (p := ⟨g3, 0, none⟩) (Iv_ne (g := g3) (by have := SZ1.out; have := SZ2.out; have := SZ3.out; have := SZ4.out; have := SZ5.out; have := SZ6.out; omega)) (.int .i64 1))
  replace BKg1 := Aside0.mk (blk_far BKg1.out (p := ⟨g3, 0, none⟩) (by show _ ≠ _; have := SZ1.out; have := SZ2.out; have := SZ3.out; have := SZ4.out; have := SZ5.out; have := SZ6.out; omega) (.int .i64 1))
  replace HOx := Aside0.mk (Kd.R_far HOx.out (p := ⟨g3, 0, none⟩) (Iv_ne (g := g3) (by have := SZ1.out; have := SZ2.out; have := SZ3.out; have := SZ4.out; have := SZ5.out; have := SZ6.out; omega)) (.int .i64 1))
  replace BKg3 := Aside0.mk (blk_put BKg3.out 0 (.int .i64 1) rfl)
  replace HB := Aside0.mk (below_set HB.out (by have := SZ1.out; have := SZ2.out; have := SZ3.out; have := SZ4.out; have := SZ5.out; have := SZ6.out; omega : w.heap.size ≤ g3) (j := 0) (v := .int .i64 1))
  replace HOm := Aside0.mk (Kd.R_far HOm.out (p := ⟨g3, 1, none⟩) (Iv_ne (g := g3) (by have := SZ1.out; have := SZ2.out; have := SZ3.out; have := SZ4.out; have := SZ5.out; have := SZ6.out; omega)) (.int .i64 2))
  replace BKg1 := Aside0.mk (blk_far BKg1.out (p := ⟨g3, 1, none⟩) (by show _ ≠ _; have := SZ1.out; have := SZ2.out; have := SZ3.out; have := SZ4.out; have := SZ5.out; have := SZ6.out; omega) (.int .i64 2))
  replace HOx := Aside0.mk (Kd.R_far HOx.out (p := ⟨g3, 1, none⟩) (Iv_ne (g := g3) (by have := SZ1.out; have := SZ2.out; have := SZ3.out; have := SZ4.out; have := SZ5.out; have := SZ6.out; omega)) (.int .i64 2))
  replace BKg3 := Aside0.mk (blk_put BKg3.out 1 (.int .i64 2) rfl)
  replace HB := Aside0.mk (below_set HB.out (by have := SZ1.out; have := SZ2.out; have := SZ3.out; have := SZ4.out; have := SZ5.out; have := SZ6.out; omega : w.heap.size ≤ g3) (j := 1) (v := .int .i64 2))
  replace HOm := Aside0.mk (Kd.R_far HOm.out (p := ⟨g3, 2, none⟩) (Iv_ne (g := g3) (by have := SZ1.out; have := SZ2.out; have := SZ3.out; have := SZ4.out; have := SZ5.out; have := SZ6.out; omega)) (.int .i64 0))
  replace BKg1 := Aside0.mk (blk_far BKg1.out (p := ⟨g3, 2, none⟩) (by show _ ≠ _; have := SZ1.out; have := SZ2.out; have := SZ3.out; have := SZ4.out; have := SZ5.out; have := SZ6.out; omega) (.int .i64 0))
  replace HOx := Aside0.mk (Kd.R_far HOx.out (p := ⟨g3, 2, none⟩) (Iv_ne (g := g3) (by have := SZ1.out; have := SZ2.out; have := SZ3.out; have := SZ4.out; have := SZ5.out; have := SZ6.out; omega)) (.int .i64 0))
  replace BKg3 := Aside0.mk (blk_put BKg3.out 2 (.int .i64 0) rfl)
  replace HB := Aside0.mk (below_set HB.out (by have := SZ1.out; have := SZ2.out; have := SZ3.out; have := SZ4.out; have := SZ5.out; have := SZ6.out; omega : w.heap.size ≤ g3) (j := 2) (v := .int .i64 0))
  replace HOm := Aside0.mk (Kd.R_far HOm.out (p := ⟨g3, 3, none⟩) (Iv_ne (g := g3) (by have := SZ1.out; have := SZ2.out; have := SZ3.out; have := SZ4.out; have := SZ5.out; have := SZ6.out; omega)) (.slice x_A alX.length x_c))
  replace BKg1 := Aside0.mk (blk_far BKg1.out (p := ⟨g3, 3, none⟩) (by show _ ≠ _; have := SZ1.out; have := SZ2.out; have := SZ3.out; have := SZ4.out; have := SZ5.out; have := SZ6.out; omega) (.slice x_A alX.length x_c))
  replace HOx := Aside0.mk (Kd.R_far HOx.out (p := ⟨g3, 3, none⟩) (Iv_ne (g := g3) (by have := SZ1.out; have := SZ2.out; have := SZ3.out; have := SZ4.out; have := SZ5.out; have := SZ6.out; omega)) (.slice x_A alX.length x_c))
  replace BKg3 := Aside0.mk (blk_put BKg3.out 3 (.slice x_A alX.length x_c) rfl)
  replace HB := Aside0.mk (below_set HB.out (by have := SZ1.out; have := SZ2.out; have := SZ3.out; have := SZ4.out; have := SZ5.out; have := SZ6.out; omega : w.heap.size ≤ g3) (j := 3) (v := .slice x_A alX.length x_c))
  have SZ7 := Aside0.mk (show w6.heap.size ≤ ((((w6.setCell ⟨g3, 0, none⟩ (.int .i64 1)).setCell ⟨g3, 1, none⟩ (.int .i64 2)).setCell ⟨g3, 2, none⟩ (.int .i64 0)).setCell ⟨g3, 3, none⟩ (.slice x_A alX.length x_c)).heap.size from by simp [World.setCell])
  generalize ((((w6.setCell ⟨g3, 0, none⟩ (.int .i64 1)).setCell ⟨g3, 1, none⟩ (.int .i64 2)).setCell ⟨g3, 2, none⟩ (.int .i64 0)).setCell ⟨g3, 3, none⟩ (.slice x_A alX.length x_c)) = w7 at HB HOm BKg1 HOx BKg3 SZ7 ⊢
  have hcg3_0 : w7.cell? ⟨g3, 0, none⟩ = some (.int .i64 1) := (blk_cell BKg3.out 0).trans rfl
  have hfg3_0 := blk_frozen BKg3.out 0
  have hcg3_1 : w7.cell? ⟨g3, 1, none⟩ = some (.int .i64 2) := (blk_cell BKg3.out 1).trans rfl
  have hfg3_1 := blk_frozen BKg3.out 1
  have hcg3_2 : w7.cell? ⟨g3, 2, none⟩ = some (.int .i64 0) := (blk_cell BKg3.out 2).trans rfl
  have hfg3_2 := blk_frozen BKg3.out 2
  have hcg3_3 : w7.cell? ⟨g3, 3, none⟩ = some (.slice x_A alX.length x_c) := (blk_cell BKg3.out 3).trans rfl
  have hfg3_3 := blk_frozen BKg3.out 3
  (try clear hcg3_0 hfg3_0)
  (try clear hcg3_1 hfg3_1)
  (try clear hcg3_2 hfg3_2)
  (try clear hcg3_3 hfg3_3)
  have hcg1_0 : w7.cell? ⟨g1, 0, none⟩ = some (.int .i64 2) := (blk_cell BKg1.out 0).trans rfl
  have hfg1_0 := blk_frozen BKg1.out 0
  have hcg1_1 : w7.cell? ⟨g1, 1, none⟩ = some (.int .i64 1) := (blk_cell BKg1.out 1).trans rfl
  have hfg1_1 := blk_frozen BKg1.out 1
  have hcg1_2 : w7.cell? ⟨g1, 2, none⟩ = some (.int .i64 16) := (blk_cell BKg1.out 2).trans rfl
  have hfg1_2 := blk_frozen BKg1.out 2
  have hcg1_3 : w7.cell? ⟨g1, 3, none⟩ = some (.int .i64 8) := (blk_cell BKg1.out 3).trans rfl
  have hfg1_3 := blk_frozen BKg1.out 3
  have hcg1_4 : w7.cell? ⟨g1, 4, none⟩ = some (.slice m_A alB.length m_c) := (blk_cell BKg1.out 4).trans rfl
  have hfg1_4 := blk_frozen BKg1.out 4
  have hcg3_0 : w7.cell? ⟨g3, 0, none⟩ = some (.int .i64 1) := (blk_cell BKg3.out 0).trans rfl
  have hfg3_0 := blk_frozen BKg3.out 0
  have hcg3_1 : w7.cell? ⟨g3, 1, none⟩ = some (.int .i64 2) := (blk_cell BKg3.out 1).trans rfl
  have hfg3_1 := blk_frozen BKg3.out 1
  have hcg3_2 : w7.cell? ⟨g3, 2, none⟩ = some (.int .i64 0) := (blk_cell BKg3.out 2).trans rfl
  have hfg3_2 := blk_frozen BKg3.out 2
  have hcg3_3 : w7.cell? ⟨g3, 3, none⟩ = some (.slice x_A alX.length x_c) := (blk_cell BKg3.out 3).trans rfl
  have hfg3_3 := blk_frozen BKg3.out 3
  have tok6 : True := trivial
  go_wp2_with (first | (have _ := tok6; go_at_call 38; (with_reducible refine (twoslotlaw09_full.calls 100 2 alY _ alive_full2).mono ?_); rintro e w8 ⟨v_y, rfl, ho, hb⟩; (try clear hcg1_0 hfg1_0); (try clear hcg1_1 hfg1_1); (try clear hcg1_2 hfg1_2); (try clear hcg1_3 hfg1_3); (try clear hcg1_4 hfg1_4); (try clear hcg3_0 hfg3_0); (try clear hcg3_1 hfg3_1); (try clear hcg3_2 hfg3_2); (try clear hcg3_3 hfg3_3); have hs : Below w7.heap.size w7 w8 := below_step (by repeat (first | exact Below.refl _ _ | apply below_alloc | apply pw_below_drewN | apply below_drew1)) hb; have hl : w7.heap.size ≤ _ := below_size (w := w7) (by repeat (first | exact Below.refl _ _ | apply below_alloc | apply pw_below_drewN | apply below_drew1)); have SZ8 := Aside0.mk (show w7.heap.size ≤ w8.heap.size from hs.size); replace HOm := Aside0.mk (Kd.R_below HOm.out hs); replace BKg1 := Aside0.mk (blk_below BKg1.out hs); replace HOx := Aside0.mk (Kd.R_below HOx.out hs); replace BKg3 := Aside0.mk (blk_below BKg3.out hs); have HOy := Aside0.mk (R_iv ho (below_size (by repeat (first | exact HB.out | apply below_alloc | apply pw_below_drewN | apply below_drew1))) hl); replace HB := Aside0.mk (below_step HB.out hs); clear ho; obtain ⟨y_A, y_c, e_⟩ := Kd.R_slice HOy.out; subst e_; clear hb hs; (try clear hl); have hcg1_0 : w8.cell? ⟨g1, 0, none⟩ = some (.int .i64 2) := (blk_cell BKg1.out 0).trans rfl; have hfg1_0 := blk_frozen BKg1.out 0; have hcg1_1 : w8.cell? ⟨g1, 1, none⟩ = some (.int .i64 1) := (blk_cell BKg1.out 1).trans rfl; have hfg1_1 := blk_frozen BKg1.out 1; have hcg1_2 : w8.cell? ⟨g1, 2, none⟩ = some (.int .i64 16) := (blk_cell BKg1.out 2).trans rfl; have hfg1_2 := blk_frozen BKg1.out 2; have hcg1_3 : w8.cell? ⟨g1, 3, none⟩ = some (.int .i64 8) := (blk_cell BKg1.out 3).trans rfl; have hfg1_3 := blk_frozen BKg1.out 3; have hcg1_4 : w8.cell? ⟨g1, 4, none⟩ = some (.slice m_A alB.length m_c) := (blk_cell BKg1.out 4).trans rfl; have hfg1_4 := blk_frozen BKg1.out 4; have hcg3_0 : w8.cell? ⟨g3, 0, none⟩ = some (.int .i64 1) := (blk_cell BKg3.out 0).trans rfl; have hfg3_0 := blk_frozen BKg3.out 0; have hcg3_1 : w8.cell? ⟨g3, 1, none⟩ = some (.int .i64 2) := (blk_cell BKg3.out 1).trans rfl; have hfg3_1 := blk_frozen BKg3.out 1; have hcg3_2 : w8.cell? ⟨g3, 2, none⟩ = some (.int .i64 0) := (blk_cell BKg3.out 2).trans rfl; have hfg3_2 := blk_frozen BKg3.out 2; have hcg3_3 : w8.cell? ⟨g3, 3, none⟩ = some (.slice x_A alX.length x_c) := (blk_cell BKg3.out 3).trans rfl; have hfg3_3 := blk_frozen BKg3.out 3; clear tok6; have tok7 : True := trivial) | (have _ := tok7; (with_reducible refine gate_dst (N := 4) rfl ?_); refine box_event ?hg (N := 4) ?hd (cs := #[.int .i64 0, .int .i64 0, .int .i64 0, .slice none 0 0]) (t := 35) ?hr ?_; (case hd => rfl); (case hg => rfl); (case hr => first | (go_simp; done) | (go_simp; rfl)); intro g4 hg w9 hbox hb; have hs : Below w8.heap.size w8 w9 := below_step (by repeat (first | exact Below.refl _ _ | apply below_alloc | apply pw_below_drewN | apply below_drew1)) hb; have SZ9 := Aside0.mk (show w8.heap.size ≤ g4 ∧ g4 < w9.heap.size from ⟨by rw [hg]; exact (below_size (by repeat (first | exact Below.refl _ _ | apply below_alloc | apply pw_below_drewN | apply below_drew1))), blk_lt hbox⟩); (try clear hcg1_0 hfg1_0); (try clear hcg1_1 hfg1_1); (try clear hcg1_2 hfg1_2); (try clear hcg1_3 hfg1_3); (try clear hcg1_4 hfg1_4); (try clear hcg3_0 hfg3_0); (try clear hcg3_1 hfg3_1); (try clear hcg3_2 hfg3_2); (try clear hcg3_3 hfg3_3); replace HOm := Aside0.mk (Kd.R_below HOm.out hs); replace BKg1 := Aside0.mk (blk_below BKg1.out hs); replace HOx := Aside0.mk (Kd.R_below HOx.out hs); replace BKg3 := Aside0.mk (blk_below BKg3.out hs); replace HOy := Aside0.mk (Kd.R_below HOy.out hs); replace HB := Aside0.mk (below_step HB.out hs); have hneg1_g4 : g1 ≠ g4 := (by have := SZ9.out; have := SZ1.out; have := SZ2.out; have := SZ3.out; have := SZ4.out; have := SZ5.out; have := SZ6.out; have := SZ7.out; have := SZ8.out; omega); have hneg4_g1 : g4 ≠ g1 := hneg1_g4.symm; have hneg3_g4 : g3 ≠ g4 := (by have := SZ9.out; have := SZ1.out; have := SZ2.out; have := SZ3.out; have := SZ4.out; have := SZ5.out; have := SZ6.out; have := SZ7.out; have := SZ8.out; omega); have hneg4_g3 : g4 ≠ g3 := hneg3_g4.symm; have BKg4 := Aside0.mk hbox; clear hb hbox hg hs; have hcg1_0 : w9.cell? ⟨g1, 0, none⟩ = some (.int .i64 2) := (blk_cell BKg1.out 0).trans rfl; have hfg1_0 := blk_frozen BKg1.out 0; have hcg1_1 : w9.cell? ⟨g1, 1, none⟩ = some (.int .i64 1) := (blk_cell BKg1.out 1).trans rfl; have hfg1_1 := blk_frozen BKg1.out 1; have hcg1_2 : w9.cell? ⟨g1, 2, none⟩ = some (.int .i64 16) := (blk_cell BKg1.out 2).trans rfl; have hfg1_2 := blk_frozen BKg1.out 2; have hcg1_3 : w9.cell? ⟨g1, 3, none⟩ = some (.int .i64 8) := (blk_cell BKg1.out 3).trans rfl; have hfg1_3 := blk_frozen BKg1.out 3; have hcg1_4 : w9.cell? ⟨g1, 4, none⟩ = some (.slice m_A alB.length m_c) := (blk_cell BKg1.out 4).trans rfl; have hfg1_4 := blk_frozen BKg1.out 4; have hcg3_0 : w9.cell? ⟨g3, 0, none⟩ = some (.int .i64 1) := (blk_cell BKg3.out 0).trans rfl; have hfg3_0 := blk_frozen BKg3.out 0; have hcg3_1 : w9.cell? ⟨g3, 1, none⟩ = some (.int .i64 2) := (blk_cell BKg3.out 1).trans rfl; have hfg3_1 := blk_frozen BKg3.out 1; have hcg3_2 : w9.cell? ⟨g3, 2, none⟩ = some (.int .i64 0) := (blk_cell BKg3.out 2).trans rfl; have hfg3_2 := blk_frozen BKg3.out 2; have hcg3_3 : w9.cell? ⟨g3, 3, none⟩ = some (.slice x_A alX.length x_c) := (blk_cell BKg3.out 3).trans rfl; have hfg3_3 := blk_frozen BKg3.out 3; have hcg4_0 : w9.cell? ⟨g4, 0, none⟩ = some (.int .i64 0) := (blk_cell BKg4.out 0).trans rfl; have hfg4_0 := blk_frozen BKg4.out 0; have hcg4_1 : w9.cell? ⟨g4, 1, none⟩ = some (.int .i64 0) := (blk_cell BKg4.out 1).trans rfl; have hfg4_1 := blk_frozen BKg4.out 1; have hcg4_2 : w9.cell? ⟨g4, 2, none⟩ = some (.int .i64 0) := (blk_cell BKg4.out 2).trans rfl; have hfg4_2 := blk_frozen BKg4.out 2; have hcg4_3 : w9.cell? ⟨g4, 3, none⟩ = some (.slice none 0 0) := (blk_cell BKg4.out 3).trans rfl; have hfg4_3 := blk_frozen BKg4.out 3; clear tok7))
  (try clear hcg1_0 hfg1_0)
  (try clear hcg1_1 hfg1_1)
  (try clear hcg1_2 hfg1_2)
  (try clear hcg1_3 hfg1_3)
  (try clear hcg1_4 hfg1_4)
  (try clear hcg3_0 hfg3_0)
  (try clear hcg3_1 hfg3_1)
  (try clear hcg3_2 hfg3_2)
  (try clear hcg3_3 hfg3_3)
  (try clear hcg4_0 hfg4_0)
  (try clear hcg4_1 hfg4_1)
  (try clear hcg4_2 hfg4_2)
  (try clear hcg4_3 hfg4_3)
  replace HOm := Aside0.mk (Kd.R_far HOm.out (p := ⟨g4, 0, none⟩) (Iv_ne (g := g4) (by have := SZ1.out; have := SZ2.out; have := SZ3.out; have := SZ4.out; have := SZ5.out; have := SZ6.out; have := SZ7.out; have := SZ8.out; have := SZ9.out; omega)) (.int .i64 1))
  replace BKg1 := Aside0.mk (blk_far BKg1.out (p := ⟨g4, 0, none⟩) (by show _ ≠ _; have := SZ1.out; have := SZ2.out; have := SZ3.out; have := SZ4.out; have := SZ5.out; have := SZ6.out; have := SZ7.out; have := SZ8.out; have := SZ9.out; omega) (.int .i64 1))
  replace HOx := Aside0.mk (Kd.R_far HOx.out (p := ⟨g4, 0, none⟩) (Iv_ne (g := g4) (by have := SZ1.out; have := SZ2.out; have := SZ3.out; have := SZ4.out; have := SZ5.out; have := SZ6.out; have := SZ7.out; have := SZ8.out; have := SZ9.out; omega)) (.int .i64 1))
  replace BKg3 := Aside0.mk (blk_far BKg3.out (p := ⟨g4, 0, none⟩) (by show _ ≠ _; have := SZ1.out; have := SZ2.out; have := SZ3.out; have := SZ4.out; have := SZ5.out; have := SZ6.out; have := SZ7.out; have := SZ8.out; have := SZ9.out; omega) (.int .i64 1))
  replace HOy := Aside0.mk (Kd.R_far HOy.out (p := ⟨g4, 0, none⟩) (Iv_ne (g := g4) (by have := SZ1.out; have := SZ2.out; have := SZ3.out; have := SZ4.out; have := SZ5.out; have := SZ6.out; have := SZ7.out; have := SZ8.out; have := SZ9.out; omega)) (.int .i64 1))
  replace BKg4 := Aside0.mk (blk_put BKg4.out 0 (.int .i64 1) rfl)
  replace HB := Aside0.mk (below_set HB.out (by have := SZ1.out; have := SZ2.out; have := SZ3.out; have := SZ4.out; have := SZ5.out; have := SZ6.out; have := SZ7.out; have := SZ8.out; have := SZ9.out; omega : w.heap.size ≤ g4) (j := 0) (v := .int .i64 1))
  replace HOm := Aside0.mk (Kd.R_far HOm.out (p := ⟨g4, 1, none⟩) (Iv_ne (g := g4) (by have := SZ1.out; have := SZ2.out; have := SZ3.out; have := SZ4.out; have := SZ5.out; have := SZ6.out; have := SZ7.out; have := SZ8.out; have := SZ9.out; omega)) (.int .i64 2))
  replace BKg1 := Aside0.mk (blk_far BKg1.out (p := ⟨g4, 1, none⟩) (by show _ ≠ _; have := SZ1.out; have := SZ2.out; have := SZ3.out; have := SZ4.out; have := SZ5.out; have := SZ6.out; have := SZ7.out; have := SZ8.out; have := SZ9.out; omega) (.int .i64 2))
  replace HOx := Aside0.mk (Kd.R_far HOx.out (p := ⟨g4, 1, none⟩) (Iv_ne (g := g4) (by have := SZ1.out; have := SZ2.out; have := SZ3.out; have := SZ4.out; have := SZ5.out; have := SZ6.out; have := SZ7.out; have := SZ8.out; have := SZ9.out; omega)) (.int .i64 2))
  replace BKg3 := Aside0.mk (blk_far BKg3.out (p := ⟨g4, 1, none⟩) (by show _ ≠ _; have := SZ1.out; have := SZ2.out; have := SZ3.out; have := SZ4.out; have := SZ5.out; have := SZ6.out; have := SZ7.out; have := SZ8.out; have := SZ9.out; omega) (.int .i64 2))
  replace HOy := Aside0.mk (Kd.R_far HOy.out (p := ⟨g4, 1, none⟩) (Iv_ne (g := g4) (by have := SZ1.out; have := SZ2.out; have := SZ3.out; have := SZ4.out; have := SZ5.out; have := SZ6.out; have := SZ7.out; have := SZ8.out; have := SZ9.out; omega)) (.int .i64 2))
  replace BKg4 := Aside0.mk (blk_put BKg4.out 1 (.int .i64 2) rfl)
  replace HB := Aside0.mk (below_set HB.out (by have := SZ1.out; have := SZ2.out; have := SZ3.out; have := SZ4.out; have := SZ5.out; have := SZ6.out; have := SZ7.out; have := SZ8.out; have := SZ9.out; omega : w.heap.size ≤ g4) (j := 1) (v := .int .i64 2))
  replace HOm := Aside0.mk (Kd.R_far HOm.out (p := ⟨g4, 2, none⟩) (Iv_ne (g := g4) (by have := SZ1.out; have := SZ2.out; have := SZ3.out; have := SZ4.out; have := SZ5.out; have := SZ6.out; have := SZ7.out; have := SZ8.out; have := SZ9.out; omega)) (.int .i64 0))
  replace BKg1 := Aside0.mk (blk_far BKg1.out (p := ⟨g4, 2, none⟩) (by show _ ≠ _; have := SZ1.out; have := SZ2.out; have := SZ3.out; have := SZ4.out; have := SZ5.out; have := SZ6.out; have := SZ7.out; have := SZ8.out; have := SZ9.out; omega) (.int .i64 0))
  replace HOx := Aside0.mk (Kd.R_far HOx.out (p := ⟨g4, 2, none⟩) (Iv_ne (g := g4) (by have := SZ1.out; have := SZ2.out; have := SZ3.out; have := SZ4.out; have := SZ5.out; have := SZ6.out; have := SZ7.out; have := SZ8.out; have := SZ9.out; omega)) (.int .i64 0))
  replace BKg3 := Aside0.mk (blk_far BKg3.out (p := ⟨g4, 2, none⟩) (by show _ ≠ _; have := SZ1.out; have := SZ2.out; have := SZ3.out; have := SZ4.out; have := SZ5.out; have := SZ6.out; have := SZ7.out; have := SZ8.out; have := SZ9.out; omega) (.int .i64 0))
  replace HOy := Aside0.mk (Kd.R_far HOy.out (p := ⟨g4, 2, none⟩) (Iv_ne (g := g4) (by have := SZ1.out; have := SZ2.out; have := SZ3.out; have := SZ4.out; have := SZ5.out; have := SZ6.out; have := SZ7.out; have := SZ8.out; have := SZ9.out; omega)) (.int .i64 0))
  replace BKg4 := Aside0.mk (blk_put BKg4.out 2 (.int .i64 0) rfl)
  replace HB := Aside0.mk (below_set HB.out (by have := SZ1.out; have := SZ2.out; have := SZ3.out; have := SZ4.out; have := SZ5.out; have := SZ6.out; have := SZ7.out; have := SZ8.out; have := SZ9.out; omega : w.heap.size ≤ g4) (j := 2) (v := .int .i64 0))
  replace HOm := Aside0.mk (Kd.R_far HOm.out (p := ⟨g4, 3, none⟩) (Iv_ne (g := g4) (by have := SZ1.out; have := SZ2.out; have := SZ3.out; have := SZ4.out; have := SZ5.out; have := SZ6.out; have := SZ7.out; have := SZ8.out; have := SZ9.out; omega)) (.slice y_A alY.length y_c))
  replace BKg1 := Aside0.mk (blk_far BKg1.out (p := ⟨g4, 3, none⟩) (by show _ ≠ _; have := SZ1.out; have := SZ2.out; have := SZ3.out; have := SZ4.out; have := SZ5.out; have := SZ6.out; have := SZ7.out; have := SZ8.out; have := SZ9.out; omega) (.slice y_A alY.length y_c))
  replace HOx := Aside0.mk (Kd.R_far HOx.out (p := ⟨g4, 3, none⟩) (Iv_ne (g := g4) (by have := SZ1.out; have := SZ2.out; have := SZ3.out; have := SZ4.out; have := SZ5.out; have := SZ6.out; have := SZ7.out; have := SZ8.out; have := SZ9.out; omega)) (.slice y_A alY.length y_c))
  replace BKg3 := Aside0.mk (blk_far BKg3.out (p := ⟨g4, 3, none⟩) (by show _ ≠ _; have := SZ1.out; have := SZ2.out; have := SZ3.out; have := SZ4.out; have := SZ5.out; have := SZ6.out; have := SZ7.out; have := SZ8.out; have := SZ9.out; omega) (.slice y_A alY.length y_c))
  replace HOy := Aside0.mk (Kd.R_far HOy.out (p := ⟨g4, 3, none⟩) (Iv_ne (g := g4) (by have := SZ1.out; have := SZ2.out; have := SZ3.out; have := SZ4.out; have := SZ5.out; have := SZ6.out; have := SZ7.out; have := SZ8.out; have := SZ9.out; omega)) (.slice y_A alY.length y_c))
  replace BKg4 := Aside0.mk (blk_put BKg4.out 3 (.slice y_A alY.length y_c) rfl)
  replace HB := Aside0.mk (below_set HB.out (by have := SZ1.out; have := SZ2.out; have := SZ3.out; have := SZ4.out; have := SZ5.out; have := SZ6.out; have := SZ7.out; have := SZ8.out; have := SZ9.out; omega : w.heap.size ≤ g4) (j := 3) (v := .slice y_A alY.length y_c))
  have SZ10 := Aside0.mk (show w9.heap.size ≤ ((((w9.setCell ⟨g4, 0, none⟩ (.int .i64 1)).setCell ⟨g4, 1, none⟩ (.int .i64 2)).setCell ⟨g4, 2, none⟩ (.int .i64 0)).setCell ⟨g4, 3, none⟩ (.slice y_A alY.length y_c)).heap.size from by simp [World.setCell])
  generalize ((((w9.setCell ⟨g4, 0, none⟩ (.int .i64 1)).setCell ⟨g4, 1, none⟩ (.int .i64 2)).setCell ⟨g4, 2, none⟩ (.int .i64 0)).setCell ⟨g4, 3, none⟩ (.slice y_A alY.length y_c)) = w10 at HB HOm BKg1 HOx BKg3 HOy BKg4 SZ10 ⊢
  have hcg1_0 : w10.cell? ⟨g1, 0, none⟩ = some (.int .i64 2) := (blk_cell BKg1.out 0).trans rfl
  have hfg1_0 := blk_frozen BKg1.out 0
  have hcg1_1 : w10.cell? ⟨g1, 1, none⟩ = some (.int .i64 1) := (blk_cell BKg1.out 1).trans rfl
  have hfg1_1 := blk_frozen BKg1.out 1
  have hcg1_2 : w10.cell? ⟨g1, 2, none⟩ = some (.int .i64 16) := (blk_cell BKg1.out 2).trans rfl
  have hfg1_2 := blk_frozen BKg1.out 2
  have hcg1_3 : w10.cell? ⟨g1, 3, none⟩ = some (.int .i64 8) := (blk_cell BKg1.out 3).trans rfl
  have hfg1_3 := blk_frozen BKg1.out 3
  have hcg1_4 : w10.cell? ⟨g1, 4, none⟩ = some (.slice m_A alB.length m_c) := (blk_cell BKg1.out 4).trans rfl
  have hfg1_4 := blk_frozen BKg1.out 4
  have hcg3_0 : w10.cell? ⟨g3, 0, none⟩ = some (.int .i64 1) := (blk_cell BKg3.out 0).trans rfl
  have hfg3_0 := blk_frozen BKg3.out 0
  have hcg3_1 : w10.cell? ⟨g3, 1, none⟩ = some (.int .i64 2) := (blk_cell BKg3.out 1).trans rfl
  have hfg3_1 := blk_frozen BKg3.out 1
  have hcg3_2 : w10.cell? ⟨g3, 2, none⟩ = some (.int .i64 0) := (blk_cell BKg3.out 2).trans rfl
  have hfg3_2 := blk_frozen BKg3.out 2
  have hcg3_3 : w10.cell? ⟨g3, 3, none⟩ = some (.slice x_A alX.length x_c) := (blk_cell BKg3.out 3).trans rfl
  have hfg3_3 := blk_frozen BKg3.out 3
  have hcg4_0 : w10.cell? ⟨g4, 0, none⟩ = some (.int .i64 1) := (blk_cell BKg4.out 0).trans rfl
  have hfg4_0 := blk_frozen BKg4.out 0
  have hcg4_1 : w10.cell? ⟨g4, 1, none⟩ = some (.int .i64 2) := (blk_cell BKg4.out 1).trans rfl
  have hfg4_1 := blk_frozen BKg4.out 1
  have hcg4_2 : w10.cell? ⟨g4, 2, none⟩ = some (.int .i64 0) := (blk_cell BKg4.out 2).trans rfl
  have hfg4_2 := blk_frozen BKg4.out 2
  have hcg4_3 : w10.cell? ⟨g4, 3, none⟩ = some (.slice y_A alY.length y_c) := (blk_cell BKg4.out 3).trans rfl
  have hfg4_3 := blk_frozen BKg4.out 3
  (try clear hcg1_0 hfg1_0)
  (try clear hcg1_1 hfg1_1)
  (try clear hcg1_2 hfg1_2)
  (try clear hcg1_3 hfg1_3)
  (try clear hcg1_4 hfg1_4)
  (try clear hcg3_0 hfg3_0)
  (try clear hcg3_1 hfg3_1)
  (try clear hcg3_2 hfg3_2)
  (try clear hcg3_3 hfg3_3)
  (try clear hcg4_0 hfg4_0)
  (try clear hcg4_1 hfg4_1)
  (try clear hcg4_2 hfg4_2)
  (try clear hcg4_3 hfg4_3)
  
  have tok8 : True := trivial
  go_wp2_with (first | (have _ := tok8; go_at_call 22; (with_reducible refine (image_Put.calls 100 2 1 16 8 m_A m_c alB 1 2 0 x_A x_c alX 2 1 16 8 alA 0 _ ?s1 (Kd.R_reads' HOm.out).2.1 ?s2 (Kd.R_reads' HOx.out).2.1 alive_put).mono ?_); (case s1 => exact (Kd.R_reads' (Kd.R_below HOm.out (by repeat (first | exact Below.refl _ _ | apply below_alloc | apply pw_below_drewN | apply below_drew1)))).2.2); (case s2 => exact (Kd.R_reads' (Kd.R_below HOx.out (by repeat (first | exact Below.refl _ _ | apply below_alloc | apply pw_below_drewN | apply below_drew1)))).2.2); rintro e w11 ⟨v_a, rfl, ho, hb⟩; have hs : Below w10.heap.size w10 w11 := below_step (by repeat (first | exact Below.refl _ _ | apply below_alloc | apply pw_below_drewN | apply below_drew1)) hb; have hl : w10.heap.size ≤ _ := below_size (w := w10) (by repeat (first | exact Below.refl _ _ | apply below_alloc | apply pw_below_drewN | apply below_drew1)); have SZ11 := Aside0.mk (show w10.heap.size ≤ w11.heap.size from hs.size); replace HOm := Aside0.mk (Kd.R_below HOm.out hs); replace BKg1 := Aside0.mk (blk_below BKg1.out hs); replace HOx := Aside0.mk (Kd.R_below HOx.out hs); replace BKg3 := Aside0.mk (blk_below BKg3.out hs); replace HOy := Aside0.mk (Kd.R_below HOy.out hs); replace BKg4 := Aside0.mk (blk_below BKg4.out hs); have HOa := Aside0.mk (R_iv ho (below_size (by repeat (first | exact HB.out | apply below_alloc | apply pw_below_drewN | apply below_drew1))) hl); replace HB := Aside0.mk (below_step HB.out hs); clear ho; obtain ⟨a_A, a_c, e_⟩ := Kd.R_slice HOa.out; subst e_; clear hb hs; (try clear hl); clear tok8; have tok9 : True := trivial) | (have _ := tok9; (with_reducible refine gate_dst (N := 5) rfl ?_); refine box_event ?hg (N := 5) ?hd (cs := #[.int .i64 0, .int .i64 0, .int .i64 0, .int .i64 0, .slice none 0 0]) (t := 27) ?hr ?_; (case hd => rfl); (case hg => rfl); (case hr => first | (go_simp; done) | (go_simp; rfl)); intro g5 hg w12 hbox hb; have hs : Below w11.heap.size w11 w12 := below_step (by repeat (first | exact Below.refl _ _ | apply below_alloc | apply pw_below_drewN | apply below_drew1)) hb; have SZ12 := Aside0.mk (show w11.heap.size ≤ g5 ∧ g5 < w12.heap.size from ⟨by rw [hg]; exact (below_size (by repeat (first | exact Below.refl _ _ | apply below_alloc | apply pw_below_drewN | apply below_drew1))), blk_lt hbox⟩); replace HOm := Aside0.mk (Kd.R_below HOm.out hs); replace BKg1 := Aside0.mk (blk_below BKg1.out hs); replace HOx := Aside0.mk (Kd.R_below HOx.out hs); replace BKg3 := Aside0.mk (blk_below BKg3.out hs); replace HOy := Aside0.mk (Kd.R_below HOy.out hs); replace BKg4 := Aside0.mk (blk_below BKg4.out hs); replace HOa := Aside0.mk (Kd.R_below HOa.out hs); replace HB := Aside0.mk (below_step HB.out hs); have hneg1_g5 : g1 ≠ g5 := (by have := SZ12.out; have := SZ1.out; have := SZ2.out; have := SZ3.out; have := SZ4.out; have := SZ5.out; have := SZ6.out; have := SZ7.out; have := SZ8.out; have := SZ9.out; have := SZ10.out; have := SZ11.out; omega); have hneg5_g1 : g5 ≠ g1 := hneg1_g5.symm; have hneg3_g5 : g3 ≠ g5 := (by have := SZ12.out; have := SZ1.out; have := SZ2.out; have := SZ3.out; have := SZ4.out; have := SZ5.out; have := SZ6.out; have := SZ7.out; have := SZ8.out; have := SZ9.out; have := SZ10.out; have := SZ11.out; omega); have hneg5_g3 : g5 ≠ g3 := hneg3_g5.symm; have hneg4_g5 : g4 ≠ g5 := (by have := SZ12.out; have := SZ1.out; have := SZ2.out; have := SZ3.out; have := SZ4.out; have := SZ5.out; have := SZ6.out; have := SZ7.out; have := SZ8.out; have := SZ9.out; have := SZ10.out; have := SZ11.out; omega); have hneg5_g4 : g5 ≠ g4 := hneg4_g5.symm; have BKg5 := Aside0.mk hbox; clear hb hbox hg hs; have hcg5_0 : w12.cell? ⟨g5, 0, none⟩ = some (.int .i64 0) := (blk_cell BKg5.out 0).trans rfl; have hfg5_0 := blk_frozen BKg5.out 0; have hcg5_1 : w12.cell? ⟨g5, 1, none⟩ = some (.int .i64 0) := (blk_cell BKg5.out 1).trans rfl; have hfg5_1 := blk_frozen BKg5.out 1; have hcg5_2 : w12.cell? ⟨g5, 2, none⟩ = some (.int .i64 0) := (blk_cell BKg5.out 2).trans rfl; have hfg5_2 := blk_frozen BKg5.out 2; have hcg5_3 : w12.cell? ⟨g5, 3, none⟩ = some (.int .i64 0) := (blk_cell BKg5.out 3).trans rfl; have hfg5_3 := blk_frozen BKg5.out 3; have hcg5_4 : w12.cell? ⟨g5, 4, none⟩ = some (.slice none 0 0) := (blk_cell BKg5.out 4).trans rfl; have hfg5_4 := blk_frozen BKg5.out 4; clear tok9))
  (try clear hcg5_0 hfg5_0)
  (try clear hcg5_1 hfg5_1)
  (try clear hcg5_2 hfg5_2)
  (try clear hcg5_3 hfg5_3)
  (try clear hcg5_4 hfg5_4)
  replace HOm := Aside0.mk (Kd.R_far HOm.out (p := ⟨g5, 0, none⟩) (Iv_ne (g := g5) (by have := SZ1.out; have := SZ2.out; have := SZ3.out; have := SZ4.out; have := SZ5.out; have := SZ6.out; have := SZ7.out; have := SZ8.out; have := SZ9.out; have := SZ10.out; have := SZ11.out; have := SZ12.out; omega)) (.int .i64 2))
  replace BKg1 := Aside0.mk (blk_far BKg1.out (p := ⟨g5, 0, none⟩) (by show _ ≠ _; have := SZ1.out; have := SZ2.out; have := SZ3.out; have := SZ4.out; have := SZ5.out; have := SZ6.out; have := SZ7.out; have := SZ8.out; have := SZ9.out; have := SZ10.out; have := SZ11.out; have := SZ12.out; omega) (.int .i64 2))
  replace HOx := Aside0.mk (Kd.R_far HOx.out (p := ⟨g5, 0, none⟩) (Iv_ne (g := g5) (by have := SZ1.out; have := SZ2.out; have := SZ3.out; have := SZ4.out; have := SZ5.out; have := SZ6.out; have := SZ7.out; have := SZ8.out; have := SZ9.out; have := SZ10.out; have := SZ11.out; have := SZ12.out; omega)) (.int .i64 2))
  replace BKg3 := Aside0.mk (blk_far BKg3.out (p := ⟨g5, 0, none⟩) (by show _ ≠ _; have := SZ1.out; have := SZ2.out; have := SZ3.out; have := SZ4.out; have := SZ5.out; have := SZ6.out; have := SZ7.out; have := SZ8.out; have := SZ9.out; have := SZ10.out; have := SZ11.out; have := SZ12.out; omega) (.int .i64 2))
  replace HOy := Aside0.mk (Kd.R_far HOy.out (p := ⟨g5, 0, none⟩) (Iv_ne (g := g5) (by have := SZ1.out; have := SZ2.out; have := SZ3.out; have := SZ4.out; have := SZ5.out; have := SZ6.out; have := SZ7.out; have := SZ8.out; have := SZ9.out; have := SZ10.out; have := SZ11.out; have := SZ12.out; omega)) (.int .i64 2))
  replace BKg4 := Aside0.mk (blk_far BKg4.out (p := ⟨g5, 0, none⟩) (by show _ ≠ _; have := SZ1.out; have := SZ2.out; have := SZ3.out; have := SZ4.out; have := SZ5.out; have := SZ6.out; have := SZ7.out; have := SZ8.out; have := SZ9.out; have := SZ10.out; have := SZ11.out; have := SZ12.out; omega) (.int .i64 2))
  replace HOa := Aside0.mk (Kd.R_far HOa.out (p := ⟨g5, 0, none⟩) (Iv_ne (g := g5) (by have := SZ1.out; have := SZ2.out; have := SZ3.out; have := SZ4.out; have := SZ5.out; have := SZ6.out; have := SZ7.out; have := SZ8.out; have := SZ9.out; have := SZ10.out; have := SZ11.out; have := SZ12.out; omega)) (.int .i64 2))
  replace BKg5 := Aside0.mk (blk_put BKg5.out 0 (.int .i64 2) rfl)
  replace HB := Aside0.mk (below_set HB.out (by have := SZ1.out; have := SZ2.out; have := SZ3.out; have := SZ4.out; have := SZ5.out; have := SZ6.out; have := SZ7.out; have := SZ8.out; have := SZ9.out; have := SZ10.out; have := SZ11.out; have := SZ12.out; omega : w.heap.size ≤ g5) (j := 0) (v := .int .i64 2))
  replace HOm := Aside0.mk (Kd.R_far HOm.out (p := ⟨g5, 1, none⟩) (Iv_ne (g := g5) (by have := SZ1.out; have := SZ2.out; have := SZ3.out; have := SZ4.out; have := SZ5.out; have := SZ6.out; have := SZ7.out; have := SZ8.out; have := SZ9.out; have := SZ10.out; have := SZ11.out; have := SZ12.out; omega)) (.int .i64 1))
  replace BKg1 := Aside0.mk (blk_far BKg1.out (p := ⟨g5, 1, none⟩) (by show _ ≠ _; have := SZ1.out; have := SZ2.out; have := SZ3.out; have := SZ4.out; have := SZ5.out; have := SZ6.out; have := SZ7.out; have := SZ8.out; have := SZ9.out; have := SZ10.out; have := SZ11.out; have := SZ12.out; omega) (.int .i64 1))
  replace HOx := Aside0.mk (Kd.R_far HOx.out (p := ⟨g5, 1, none⟩) (Iv_ne (g := g5) (by have := SZ1.out; have := SZ2.out; have := SZ3.out; have := SZ4.out; have := SZ5.out; have := SZ6.out; have := SZ7.out; have := SZ8.out; have := SZ9.out; have := SZ10.out; have := SZ11.out; have := SZ12.out; omega)) (.int .i64 1))
  replace BKg3 := Aside0.mk (blk_far BKg3.out (p := ⟨g5, 1, none⟩) (by show _ ≠ _; have := SZ1.out; have := SZ2.out; have := SZ3.out; have := SZ4.out; have := SZ5.out; have := SZ6.out; have := SZ7.out; have := SZ8.out; have := SZ9.out; have := SZ10.out; have := SZ11.out; have := SZ12.out; omega) (.int .i64 1))
  replace HOy := Aside0.mk (Kd.R_far HOy.out (p := ⟨g5, 1, none⟩) (Iv_ne (g := g5) (by have := SZ1.out; have := SZ2.out; have := SZ3.out; have := SZ4.out; have := SZ5.out; have := SZ6.out; have := SZ7.out; have := SZ8.out; have := SZ9.out; have := SZ10.out; have := SZ11.out; have := SZ12.out; omega)) (.int .i64 1))
  replace BKg4 := Aside0.mk (blk_far BKg4.out (p := ⟨g5, 1, none⟩) (by show _ ≠ _; have := SZ1.out; have := SZ2.out; have := SZ3.out; have := SZ4.out; have := SZ5.out; have := SZ6.out; have := SZ7.out; have := SZ8.out; have := SZ9.out; have := SZ10.out; have := SZ11.out; have := SZ12.out; omega) (.int .i64 1))
  replace HOa := Aside0.mk (Kd.R_far HOa.out (p := ⟨g5, 1, none⟩) (Iv_ne (g := g5) (by have := SZ1.out; have := SZ2.out; have := SZ3.out; have := SZ4.out; have := SZ5.out; have := SZ6.out; have := SZ7.out; have := SZ8.out; have := SZ9.out; have := SZ10.out; have := SZ11.out; have := SZ12.out; omega)) (.int .i64 1))
  replace BKg5 := Aside0.mk (blk_put BKg5.out 1 (.int .i64 1) rfl)
  replace HB := Aside0.mk (below_set HB.out (by have := SZ1.out; have := SZ2.out; have := SZ3.out; have := SZ4.out; have := SZ5.out; have := SZ6.out; have := SZ7.out; have := SZ8.out; have := SZ9.out; have := SZ10.out; have := SZ11.out; have := SZ12.out; omega : w.heap.size ≤ g5) (j := 1) (v := .int .i64 1))
  replace HOm := Aside0.mk (Kd.R_far HOm.out (p := ⟨g5, 2, none⟩) (Iv_ne (g := g5) (by have := SZ1.out; have := SZ2.out; have := SZ3.out; have := SZ4.out; have := SZ5.out; have := SZ6.out; have := SZ7.out; have := SZ8.out; have := SZ9.out; have := SZ10.out; have := SZ11.out; have := SZ12.out; omega)) (.int .i64 16))
  replace BKg1 := Aside0.mk (blk_far BKg1.out (p := ⟨g5, 2, none⟩) (by show _ ≠ _; have := SZ1.out; have := SZ2.out; have := SZ3.out; have := SZ4.out; have := SZ5.out; have := SZ6.out; have := SZ7.out; have := SZ8.out; have := SZ9.out; have := SZ10.out; have := SZ11.out; have := SZ12.out; omega) (.int .i64 16))
  replace HOx := Aside0.mk (Kd.R_far HOx.out (p := ⟨g5, 2, none⟩) (Iv_ne (g := g5) (by have := SZ1.out; have := SZ2.out; have := SZ3.out; have := SZ4.out; have := SZ5.out; have := SZ6.out; have := SZ7.out; have := SZ8.out; have := SZ9.out; have := SZ10.out; have := SZ11.out; have := SZ12.out; omega)) (.int .i64 16))
  replace BKg3 := Aside0.mk (blk_far BKg3.out (p := ⟨g5, 2, none⟩) (by show _ ≠ _; have := SZ1.out; have := SZ2.out; have := SZ3.out; have := SZ4.out; have := SZ5.out; have := SZ6.out; have := SZ7.out; have := SZ8.out; have := SZ9.out; have := SZ10.out; have := SZ11.out; have := SZ12.out; omega) (.int .i64 16))
  replace HOy := Aside0.mk (Kd.R_far HOy.out (p := ⟨g5, 2, none⟩) (Iv_ne (g := g5) (by have := SZ1.out; have := SZ2.out; have := SZ3.out; have := SZ4.out; have := SZ5.out; have := SZ6.out; have := SZ7.out; have := SZ8.out; have := SZ9.out; have := SZ10.out; have := SZ11.out; have := SZ12.out; omega)) (.int .i64 16))
  replace BKg4 := Aside0.mk (blk_far BKg4.out (p := ⟨g5, 2, none⟩) (by show _ ≠ _; have := SZ1.out; have := SZ2.out; have := SZ3.out; have := SZ4.out; have := SZ5.out; have := SZ6.out; have := SZ7.out; have := SZ8.out; have := SZ9.out; have := SZ10.out; have := SZ11.out; have := SZ12.out; omega) (.int .i64 16))
  replace HOa := Aside0.mk (Kd.R_far HOa.out (p := ⟨g5, 2, none⟩) (Iv_ne (g := g5) (by have := SZ1.out; have := SZ2.out; have := SZ3.out; have := SZ4.out; have := SZ5.out; have := SZ6.out; have := SZ7.out; have := SZ8.out; have := SZ9.out; have := SZ10.out; have := SZ11.out; have := SZ12.out; omega)) (.int .i64 16))
  replace BKg5 := Aside0.mk (blk_put BKg5.out 2 (.int .i64 16) rfl)
  replace HB := Aside0.mk (below_set HB.out (by have := SZ1.out; have := SZ2.out; have := SZ3.out; have := SZ4.out; have := SZ5.out; have := SZ6.out; have := SZ7.out; have := SZ8.out; have := SZ9.out; have := SZ10.out; have := SZ11.out; have := SZ12.out; omega : w.heap.size ≤ g5) (j := 2) (v := .int .i64 16))
  replace HOm := Aside0.mk (Kd.R_far HOm.out (p := ⟨g5, 3, none⟩) (Iv_ne (g := g5) (by have := SZ1.out; have := SZ2.out; have := SZ3.out; have := SZ4.out; have := SZ5.out; have := SZ6.out; have := SZ7.out; have := SZ8.out; have := SZ9.out; have := SZ10.out; have := SZ11.out; have := SZ12.out; omega)) (.int .i64 8))
  replace BKg1 := Aside0.mk (blk_far BKg1.out (p := ⟨g5, 3, none⟩) (by show _ ≠ _; have := SZ1.out; have := SZ2.out; have := SZ3.out; have := SZ4.out; have := SZ5.out; have := SZ6.out; have := SZ7.out; have := SZ8.out; have := SZ9.out; have := SZ10.out; have := SZ11.out; have := SZ12.out; omega) (.int .i64 8))
  replace HOx := Aside0.mk (Kd.R_far HOx.out (p := ⟨g5, 3, none⟩) (Iv_ne (g := g5) (by have := SZ1.out; have := SZ2.out; have := SZ3.out; have := SZ4.out; have := SZ5.out; have := SZ6.out; have := SZ7.out; have := SZ8.out; have := SZ9.out; have := SZ10.out; have := SZ11.out; have := SZ12.out; omega)) (.int .i64 8))
  replace BKg3 := Aside0.mk (blk_far BKg3.out (p := ⟨g5, 3, none⟩) (by show _ ≠ _; have := SZ1.out; have := SZ2.out; have := SZ3.out; have := SZ4.out; have := SZ5.out; have := SZ6.out; have := SZ7.out; have := SZ8.out; have := SZ9.out; have := SZ10.out; have := SZ11.out; have := SZ12.out; omega) (.int .i64 8))
  replace HOy := Aside0.mk (Kd.R_far HOy.out (p := ⟨g5, 3, none⟩) (Iv_ne (g := g5) (by have := SZ1.out; have := SZ2.out; have := SZ3.out; have := SZ4.out; have := SZ5.out; have := SZ6.out; have := SZ7.out; have := SZ8.out; have := SZ9.out; have := SZ10.out; have := SZ11.out; have := SZ12.out; omega)) (.int .i64 8))
  replace BKg4 := Aside0.mk (blk_far BKg4.out (p := ⟨g5, 3, none⟩) (by show _ ≠ _; have := SZ1.out; have := SZ2.out; have := SZ3.out; have := SZ4.out; have := SZ5.out; have := SZ6.out; have := SZ7.out; have := SZ8.out; have := SZ9.out; have := SZ10.out; have := SZ11.out; have := SZ12.out; omega) (.int .i64 8))
  replace HOa := Aside0.mk (Kd.R_far HOa.out (p := ⟨g5, 3, none⟩) (Iv_ne (g := g5) (by have := SZ1.out; have := SZ2.out; have := SZ3.out; have := SZ4.out; have := SZ5.out; have := SZ6.out; have := SZ7.out; have := SZ8.out; have := SZ9.out; have := SZ10.out; have := SZ11.out; have := SZ12.out; omega)) (.int .i64 8))
  replace BKg5 := Aside0.mk (blk_put BKg5.out 3 (.int .i64 8) rfl)
  replace HB := Aside0.mk (below_set HB.out (by have := SZ1.out; have := SZ2.out; have := SZ3.out; have := SZ4.out; have := SZ5.out; have := SZ6.out; have := SZ7.out; have := SZ8.out; have := SZ9.out; have := SZ10.out; have := SZ11.out; have := SZ12.out; omega : w.heap.size ≤ g5) (j := 3) (v := .int .i64 8))
  replace HOm := Aside0.mk (Kd.R_far HOm.out (p := ⟨g5, 4, none⟩) (Iv_ne (g := g5) (by have := SZ1.out; have := SZ2.out; have := SZ3.out; have := SZ4.out; have := SZ5.out; have := SZ6.out; have := SZ7.out; have := SZ8.out; have := SZ9.out; have := SZ10.out; have := SZ11.out; have := SZ12.out; omega)) (.slice a_A alA.length a_c))
  replace BKg1 := Aside0.mk (blk_far BKg1.out (p := ⟨g5, 4, none⟩) (by show _ ≠ _; have := SZ1.out; have := SZ2.out; have := SZ3.out; have := SZ4.out; have := SZ5.out; have := SZ6.out; have := SZ7.out; have := SZ8.out; have := SZ9.out; have := SZ10.out; have := SZ11.out; have := SZ12.out; omega) (.slice a_A alA.length a_c))
  replace HOx := Aside0.mk (Kd.R_far HOx.out (p := ⟨g5, 4, none⟩) (Iv_ne (g := g5) (by have := SZ1.out; have := SZ2.out; have := SZ3.out; have := SZ4.out; have := SZ5.out; have := SZ6.out; have := SZ7.out; have := SZ8.out; have := SZ9.out; have := SZ10.out; have := SZ11.out; have := SZ12.out; omega)) (.slice a_A alA.length a_c))
  replace BKg3 := Aside0.mk (blk_far BKg3.out (p := ⟨g5, 4, none⟩) (by show _ ≠ _; have := SZ1.out; have := SZ2.out; have := SZ3.out; have := SZ4.out; have := SZ5.out; have := SZ6.out; have := SZ7.out; have := SZ8.out; have := SZ9.out; have := SZ10.out; have := SZ11.out; have := SZ12.out; omega) (.slice a_A alA.length a_c))
  replace HOy := Aside0.mk (Kd.R_far HOy.out (p := ⟨g5, 4, none⟩) (Iv_ne (g := g5) (by have := SZ1.out; have := SZ2.out; have := SZ3.out; have := SZ4.out; have := SZ5.out; have := SZ6.out; have := SZ7.out; have := SZ8.out; have := SZ9.out; have := SZ10.out; have := SZ11.out; have := SZ12.out; omega)) (.slice a_A alA.length a_c))
  replace BKg4 := Aside0.mk (blk_far BKg4.out (p := ⟨g5, 4, none⟩) (by show _ ≠ _; have := SZ1.out; have := SZ2.out; have := SZ3.out; have := SZ4.out; have := SZ5.out; have := SZ6.out; have := SZ7.out; have := SZ8.out; have := SZ9.out; have := SZ10.out; have := SZ11.out; have := SZ12.out; omega) (.slice a_A alA.length a_c))
  replace HOa := Aside0.mk (Kd.R_far HOa.out (p := ⟨g5, 4, none⟩) (Iv_ne (g := g5) (by have := SZ1.out; have := SZ2.out; have := SZ3.out; have := SZ4.out; have := SZ5.out; have := SZ6.out; have := SZ7.out; have := SZ8.out; have := SZ9.out; have := SZ10.out; have := SZ11.out; have := SZ12.out; omega)) (.slice a_A alA.length a_c))
  replace BKg5 := Aside0.mk (blk_put BKg5.out 4 (.slice a_A alA.length a_c) rfl)
  replace HB := Aside0.mk (below_set HB.out (by have := SZ1.out; have := SZ2.out; have := SZ3.out; have := SZ4.out; have := SZ5.out; have := SZ6.out; have := SZ7.out; have := SZ8.out; have := SZ9.out; have := SZ10.out; have := SZ11.out; have := SZ12.out; omega : w.heap.size ≤ g5) (j := 4) (v := .slice a_A alA.length a_c))
  have SZ13 := Aside0.mk (show w12.heap.size ≤ (((((w12.setCell ⟨g5, 0, none⟩ (.int .i64 2)).setCell ⟨g5, 1, none⟩ (.int .i64 1)).setCell ⟨g5, 2, none⟩ (.int .i64 16)).setCell ⟨g5, 3, none⟩ (.int .i64 8)).setCell ⟨g5, 4, none⟩ (.slice a_A alA.length a_c)).heap.size from by simp [World.setCell])
  generalize (((((w12.setCell ⟨g5, 0, none⟩ (.int .i64 2)).setCell ⟨g5, 1, none⟩ (.int .i64 1)).setCell ⟨g5, 2, none⟩ (.int .i64 16)).setCell ⟨g5, 3, none⟩ (.int .i64 8)).setCell ⟨g5, 4, none⟩ (.slice a_A alA.length a_c)) = w13 at HB HOm BKg1 HOx BKg3 HOy BKg4 HOa BKg5 SZ13 ⊢
  have hcg5_0 : w13.cell? ⟨g5, 0, none⟩ = some (.int .i64 2) := (blk_cell BKg5.out 0).trans rfl
  have hfg5_0 := blk_frozen BKg5.out 0
  have hcg5_1 : w13.cell? ⟨g5, 1, none⟩ = some (.int .i64 1) := (blk_cell BKg5.out 1).trans rfl
  have hfg5_1 := blk_frozen BKg5.out 1
  have hcg5_2 : w13.cell? ⟨g5, 2, none⟩ = some (.int .i64 16) := (blk_cell BKg5.out 2).trans rfl
  have hfg5_2 := blk_frozen BKg5.out 2
  have hcg5_3 : w13.cell? ⟨g5, 3, none⟩ = some (.int .i64 8) := (blk_cell BKg5.out 3).trans rfl
  have hfg5_3 := blk_frozen BKg5.out 3
  have hcg5_4 : w13.cell? ⟨g5, 4, none⟩ = some (.slice a_A alA.length a_c) := (blk_cell BKg5.out 4).trans rfl
  have hfg5_4 := blk_frozen BKg5.out 4
  (try clear hcg5_0 hfg5_0)
  (try clear hcg5_1 hfg5_1)
  (try clear hcg5_2 hfg5_2)
  (try clear hcg5_3 hfg5_3)
  (try clear hcg5_4 hfg5_4)
  have hcg1_0 : w13.cell? ⟨g1, 0, none⟩ = some (.int .i64 2) := (blk_cell BKg1.out 0).trans rfl
  have hfg1_0 := blk_frozen BKg1.out 0
  have hcg1_1 : w13.cell? ⟨g1, 1, none⟩ = some (.int .i64 1) := (blk_cell BKg1.out 1).trans rfl
  have hfg1_1 := blk_frozen BKg1.out 1
  have hcg1_2 : w13.cell? ⟨g1, 2, none⟩ = some (.int .i64 16) := (blk_cell BKg1.out 2).trans rfl
  have hfg1_2 := blk_frozen BKg1.out 2
  have hcg1_3 : w13.cell? ⟨g1, 3, none⟩ = some (.int .i64 8) := (blk_cell BKg1.out 3).trans rfl
  have hfg1_3 := blk_frozen BKg1.out 3
  have hcg1_4 : w13.cell? ⟨g1, 4, none⟩ = some (.slice m_A alB.length m_c) := (blk_cell BKg1.out 4).trans rfl
  have hfg1_4 := blk_frozen BKg1.out 4
  have hcg3_0 : w13.cell? ⟨g3, 0, none⟩ = some (.int .i64 1) := (blk_cell BKg3.out 0).trans rfl
  have hfg3_0 := blk_frozen BKg3.out 0
  have hcg3_1 : w13.cell? ⟨g3, 1, none⟩ = some (.int .i64 2) := (blk_cell BKg3.out 1).trans rfl
  have hfg3_1 := blk_frozen BKg3.out 1
  have hcg3_2 : w13.cell? ⟨g3, 2, none⟩ = some (.int .i64 0) := (blk_cell BKg3.out 2).trans rfl
  have hfg3_2 := blk_frozen BKg3.out 2
  have hcg3_3 : w13.cell? ⟨g3, 3, none⟩ = some (.slice x_A alX.length x_c) := (blk_cell BKg3.out 3).trans rfl
  have hfg3_3 := blk_frozen BKg3.out 3
  have hcg4_0 : w13.cell? ⟨g4, 0, none⟩ = some (.int .i64 1) := (blk_cell BKg4.out 0).trans rfl
  have hfg4_0 := blk_frozen BKg4.out 0
  have hcg4_1 : w13.cell? ⟨g4, 1, none⟩ = some (.int .i64 2) := (blk_cell BKg4.out 1).trans rfl
  have hfg4_1 := blk_frozen BKg4.out 1
  have hcg4_2 : w13.cell? ⟨g4, 2, none⟩ = some (.int .i64 0) := (blk_cell BKg4.out 2).trans rfl
  have hfg4_2 := blk_frozen BKg4.out 2
  have hcg4_3 : w13.cell? ⟨g4, 3, none⟩ = some (.slice y_A alY.length y_c) := (blk_cell BKg4.out 3).trans rfl
  have hfg4_3 := blk_frozen BKg4.out 3
  have tok10 : True := trivial
  go_wp2_with (first | (have _ := tok10; go_at_call 15; (with_reducible refine (Row_good 100 2 1 16 8 a_A a_c alA 2 _ ?s1 (Kd.R_reads' HOa.out).2.1 alive_check alive_n0 alive_n1 3 alive_wrap alive_n2 aAt alive_at alive_len alive_el).mono ?_); (case s1 => exact (Kd.R_reads' (Kd.R_below HOa.out (by repeat (first | exact Below.refl _ _ | apply below_alloc | apply pw_below_drewN | apply below_drew1)))).2.2); rintro e w14 ⟨v_r, rfl, ho, hb⟩; (try clear hcg1_0 hfg1_0); (try clear hcg1_1 hfg1_1); (try clear hcg1_2 hfg1_2); (try clear hcg1_3 hfg1_3); (try clear hcg1_4 hfg1_4); (try clear hcg3_0 hfg3_0); (try clear hcg3_1 hfg3_1); (try clear hcg3_2 hfg3_2); (try clear hcg3_3 hfg3_3); (try clear hcg4_0 hfg4_0); (try clear hcg4_1 hfg4_1); (try clear hcg4_2 hfg4_2); (try clear hcg4_3 hfg4_3); have hs : Below w13.heap.size w13 w14 := below_step (by repeat (first | exact Below.refl _ _ | apply below_alloc | apply pw_below_drewN | apply below_drew1)) hb; have hl : w13.heap.size ≤ _ := below_size (w := w13) (by repeat (first | exact Below.refl _ _ | apply below_alloc | apply pw_below_drewN | apply below_drew1)); have SZ14 := Aside0.mk (show w13.heap.size ≤ w14.heap.size from hs.size); replace HOm := Aside0.mk (Kd.R_below HOm.out hs); replace BKg1 := Aside0.mk (blk_below BKg1.out hs); replace HOx := Aside0.mk (Kd.R_below HOx.out hs); replace BKg3 := Aside0.mk (blk_below BKg3.out hs); replace HOy := Aside0.mk (Kd.R_below HOy.out hs); replace BKg4 := Aside0.mk (blk_below BKg4.out hs); replace HOa := Aside0.mk (Kd.R_below HOa.out hs); replace BKg5 := Aside0.mk (blk_below BKg5.out hs); have HOr := Aside0.mk (R_iv ho (below_size (by repeat (first | exact HB.out | apply below_alloc | apply pw_below_drewN | apply below_drew1))) hl); replace HB := Aside0.mk (below_step HB.out hs); clear ho; obtain ⟨r_A, r_c, e_⟩ := Kd.R_slice HOr.out; subst e_; clear hb hs; (try clear hl); have hcg1_0 : w14.cell? ⟨g1, 0, none⟩ = some (.int .i64 2) := (blk_cell BKg1.out 0).trans rfl; have hfg1_0 := blk_frozen BKg1.out 0; have hcg1_1 : w14.cell? ⟨g1, 1, none⟩ = some (.int .i64 1) := (blk_cell BKg1.out 1).trans rfl; have hfg1_1 := blk_frozen BKg1.out 1; have hcg1_2 : w14.cell? ⟨g1, 2, none⟩ = some (.int .i64 16) := (blk_cell BKg1.out 2).trans rfl; have hfg1_2 := blk_frozen BKg1.out 2; have hcg1_3 : w14.cell? ⟨g1, 3, none⟩ = some (.int .i64 8) := (blk_cell BKg1.out 3).trans rfl; have hfg1_3 := blk_frozen BKg1.out 3; have hcg1_4 : w14.cell? ⟨g1, 4, none⟩ = some (.slice m_A alB.length m_c) := (blk_cell BKg1.out 4).trans rfl; have hfg1_4 := blk_frozen BKg1.out 4; have hcg3_0 : w14.cell? ⟨g3, 0, none⟩ = some (.int .i64 1) := (blk_cell BKg3.out 0).trans rfl; have hfg3_0 := blk_frozen BKg3.out 0; have hcg3_1 : w14.cell? ⟨g3, 1, none⟩ = some (.int .i64 2) := (blk_cell BKg3.out 1).trans rfl; have hfg3_1 := blk_frozen BKg3.out 1; have hcg3_2 : w14.cell? ⟨g3, 2, none⟩ = some (.int .i64 0) := (blk_cell BKg3.out 2).trans rfl; have hfg3_2 := blk_frozen BKg3.out 2; have hcg3_3 : w14.cell? ⟨g3, 3, none⟩ = some (.slice x_A alX.length x_c) := (blk_cell BKg3.out 3).trans rfl; have hfg3_3 := blk_frozen BKg3.out 3; have hcg4_0 : w14.cell? ⟨g4, 0, none⟩ = some (.int .i64 1) := (blk_cell BKg4.out 0).trans rfl; have hfg4_0 := blk_frozen BKg4.out 0; have hcg4_1 : w14.cell? ⟨g4, 1, none⟩ = some (.int .i64 2) := (blk_cell BKg4.out 1).trans rfl; have hfg4_1 := blk_frozen BKg4.out 1; have hcg4_2 : w14.cell? ⟨g4, 2, none⟩ = some (.int .i64 0) := (blk_cell BKg4.out 2).trans rfl; have hfg4_2 := blk_frozen BKg4.out 2; have hcg4_3 : w14.cell? ⟨g4, 3, none⟩ = some (.slice y_A alY.length y_c) := (blk_cell BKg4.out 3).trans rfl; have hfg4_3 := blk_frozen BKg4.out 3; clear tok10; have tok11 : True := trivial) | (have _ := tok11; (with_reducible refine gate_dst (N := 43) rfl ?_); refine lit_event ?hg (N := 43) (k := 2) ?hd (cs := #[.int .i64 1, .int .i64 2, .int .i64 0, .slice x_A alX.length x_c, .int .i64 1, .int .i64 2, .int .i64 0, .slice y_A alY.length y_c]) (t := 35) ?hr ?_; (case hd => rfl); (case hg => rfl); (case hr => first | (go_simp; done) | (go_simp; rfl)); intro g43 hg w15 hbox hb; have hs : Below w14.heap.size w14 w15 := below_step (by repeat (first | exact Below.refl _ _ | apply below_alloc | apply pw_below_drewN | apply below_drew1)) hb; have SZ15 := Aside0.mk (show w14.heap.size ≤ g43 ∧ g43 < w15.heap.size from ⟨by rw [hg]; exact (below_size (by repeat (first | exact Below.refl _ _ | apply below_alloc | apply pw_below_drewN | apply below_drew1))), blk_lt hbox⟩); (try clear hcg1_0 hfg1_0); (try clear hcg1_1 hfg1_1); (try clear hcg1_2 hfg1_2); (try clear hcg1_3 hfg1_3); (try clear hcg1_4 hfg1_4); (try clear hcg3_0 hfg3_0); (try clear hcg3_1 hfg3_1); (try clear hcg3_2 hfg3_2); (try clear hcg3_3 hfg3_3); (try clear hcg4_0 hfg4_0); (try clear hcg4_1 hfg4_1); (try clear hcg4_2 hfg4_2); (try clear hcg4_3 hfg4_3); replace HOm := Aside0.mk (Kd.R_below HOm.out hs); replace BKg1 := Aside0.mk (blk_below BKg1.out hs); replace HOx := Aside0.mk (Kd.R_below HOx.out hs); replace BKg3 := Aside0.mk (blk_below BKg3.out hs); replace HOy := Aside0.mk (Kd.R_below HOy.out hs); replace BKg4 := Aside0.mk (blk_below BKg4.out hs); replace HOa := Aside0.mk (Kd.R_below HOa.out hs); replace BKg5 := Aside0.mk (blk_below BKg5.out hs); replace HOr := Aside0.mk (Kd.R_below HOr.out hs); replace HB := Aside0.mk (below_step HB.out hs); have hneg1_g43 : g1 ≠ g43 := (by have := SZ15.out; have := SZ1.out; have := SZ2.out; have := SZ3.out; have := SZ4.out; have := SZ5.out; have := SZ6.out; have := SZ7.out; have := SZ8.out; have := SZ9.out; have := SZ10.out; have := SZ11.out; have := SZ12.out; have := SZ13.out; have := SZ14.out; omega); have hneg43_g1 : g43 ≠ g1 := hneg1_g43.symm; have hneg3_g43 : g3 ≠ g43 := (by have := SZ15.out; have := SZ1.out; have := SZ2.out; have := SZ3.out; have := SZ4.out; have := SZ5.out; have := SZ6.out; have := SZ7.out; have := SZ8.out; have := SZ9.out; have := SZ10.out; have := SZ11.out; have := SZ12.out; have := SZ13.out; have := SZ14.out; omega); have hneg43_g3 : g43 ≠ g3 := hneg3_g43.symm; have hneg4_g43 : g4 ≠ g43 := (by have := SZ15.out; have := SZ1.out; have := SZ2.out; have := SZ3.out; have := SZ4.out; have := SZ5.out; have := SZ6.out; have := SZ7.out; have := SZ8.out; have := SZ9.out; have := SZ10.out; have := SZ11.out; have := SZ12.out; have := SZ13.out; have := SZ14.out; omega); have hneg43_g4 : g43 ≠ g4 := hneg4_g43.symm; have hneg5_g43 : g5 ≠ g43 := (by have := SZ15.out; have := SZ1.out; have := SZ2.out; have := SZ3.out; have := SZ4.out; have := SZ5.out; have := SZ6.out; have := SZ7.out; have := SZ8.out; have := SZ9.out; have := SZ10.out; have := SZ11.out; have := SZ12.out; have := SZ13.out; have := SZ14.out; omega); have hneg43_g5 : g43 ≠ g5 := hneg5_g43.symm; have BKg43 := Aside0.mk hbox; clear hb hbox hg hs; have hcg1_0 : w15.cell? ⟨g1, 0, none⟩ = some (.int .i64 2) := (blk_cell BKg1.out 0).trans rfl; have hfg1_0 := blk_frozen BKg1.out 0; have hcg1_1 : w15.cell? ⟨g1, 1, none⟩ = some (.int .i64 1) := (blk_cell BKg1.out 1).trans rfl; have hfg1_1 := blk_frozen BKg1.out 1; have hcg1_2 : w15.cell? ⟨g1, 2, none⟩ = some (.int .i64 16) := (blk_cell BKg1.out 2).trans rfl; have hfg1_2 := blk_frozen BKg1.out 2; have hcg1_3 : w15.cell? ⟨g1, 3, none⟩ = some (.int .i64 8) := (blk_cell BKg1.out 3).trans rfl; have hfg1_3 := blk_frozen BKg1.out 3; have hcg1_4 : w15.cell? ⟨g1, 4, none⟩ = some (.slice m_A alB.length m_c) := (blk_cell BKg1.out 4).trans rfl; have hfg1_4 := blk_frozen BKg1.out 4; have hcg3_0 : w15.cell? ⟨g3, 0, none⟩ = some (.int .i64 1) := (blk_cell BKg3.out 0).trans rfl; have hfg3_0 := blk_frozen BKg3.out 0; have hcg3_1 : w15.cell? ⟨g3, 1, none⟩ = some (.int .i64 2) := (blk_cell BKg3.out 1).trans rfl; have hfg3_1 := blk_frozen BKg3.out 1; have hcg3_2 : w15.cell? ⟨g3, 2, none⟩ = some (.int .i64 0) := (blk_cell BKg3.out 2).trans rfl; have hfg3_2 := blk_frozen BKg3.out 2; have hcg3_3 : w15.cell? ⟨g3, 3, none⟩ = some (.slice x_A alX.length x_c) := (blk_cell BKg3.out 3).trans rfl; have hfg3_3 := blk_frozen BKg3.out 3; have hcg4_0 : w15.cell? ⟨g4, 0, none⟩ = some (.int .i64 1) := (blk_cell BKg4.out 0).trans rfl; have hfg4_0 := blk_frozen BKg4.out 0; have hcg4_1 : w15.cell? ⟨g4, 1, none⟩ = some (.int .i64 2) := (blk_cell BKg4.out 1).trans rfl; have hfg4_1 := blk_frozen BKg4.out 1; have hcg4_2 : w15.cell? ⟨g4, 2, none⟩ = some (.int .i64 0) := (blk_cell BKg4.out 2).trans rfl; have hfg4_2 := blk_frozen BKg4.out 2; have hcg4_3 : w15.cell? ⟨g4, 3, none⟩ = some (.slice y_A alY.length y_c) := (blk_cell BKg4.out 3).trans rfl; have hfg4_3 := blk_frozen BKg4.out 3; clear tok11))
  (try clear hcg1_0 hfg1_0)
  (try clear hcg1_1 hfg1_1)
  (try clear hcg1_2 hfg1_2)
  (try clear hcg1_3 hfg1_3)
  (try clear hcg1_4 hfg1_4)
  (try clear hcg3_0 hfg3_0)
  (try clear hcg3_1 hfg3_1)
  (try clear hcg3_2 hfg3_2)
  (try clear hcg3_3 hfg3_3)
  (try clear hcg4_0 hfg4_0)
  (try clear hcg4_1 hfg4_1)
  (try clear hcg4_2 hfg4_2)
  (try clear hcg4_3 hfg4_3)
  have hcg1_0 : w15.cell? ⟨g1, 0, none⟩ = some (.int .i64 2) := (blk_cell BKg1.out 0).trans rfl
  have hfg1_0 := blk_frozen BKg1.out 0
  have hcg1_1 : w15.cell? ⟨g1, 1, none⟩ = some (.int .i64 1) := (blk_cell BKg1.out 1).trans rfl
  have hfg1_1 := blk_frozen BKg1.out 1
  have hcg1_2 : w15.cell? ⟨g1, 2, none⟩ = some (.int .i64 16) := (blk_cell BKg1.out 2).trans rfl
  have hfg1_2 := blk_frozen BKg1.out 2
  have hcg1_3 : w15.cell? ⟨g1, 3, none⟩ = some (.int .i64 8) := (blk_cell BKg1.out 3).trans rfl
  have hfg1_3 := blk_frozen BKg1.out 3
  have hcg1_4 : w15.cell? ⟨g1, 4, none⟩ = some (.slice m_A alB.length m_c) := (blk_cell BKg1.out 4).trans rfl
  have hfg1_4 := blk_frozen BKg1.out 4
  have tok12 : True := trivial
  go_wp2_with (first | (have _ := tok12; go_at_call 13; (with_reducible refine (After_two 2 1 16 8 m_A m_c alB g43 x_A y_A x_c y_c _ ?s1 (Kd.R_reads' HOm.out).2.1 (by (with_reducible repeat (first | refine blk_drewN ?_ _ | refine blk_drew ?_ | refine blk_alloc ?_ _)); exact BKg43.out) (Kd.R_reads' HOx.out).2.1 ?s2 (Kd.R_reads' HOy.out).2.1 ?s3 alive_after).mono ?_); (case s1 => exact (Kd.R_reads' (Kd.R_below HOm.out (by repeat (first | exact Below.refl _ _ | apply below_alloc | apply pw_below_drewN | apply below_drew1)))).2.2); (case s2 => exact (Kd.R_reads' (Kd.R_below HOx.out (by repeat (first | exact Below.refl _ _ | apply below_alloc | apply pw_below_drewN | apply below_drew1)))).2.2); (case s3 => exact (Kd.R_reads' (Kd.R_below HOy.out (by repeat (first | exact Below.refl _ _ | apply below_alloc | apply pw_below_drewN | apply below_drew1)))).2.2); rintro e w16 ⟨v_b, rfl, ho, hb⟩; (try clear hcg1_0 hfg1_0); (try clear hcg1_1 hfg1_1); (try clear hcg1_2 hfg1_2); (try clear hcg1_3 hfg1_3); (try clear hcg1_4 hfg1_4); have hs : Below w15.heap.size w15 w16 := below_step (by repeat (first | exact Below.refl _ _ | apply below_alloc | apply pw_below_drewN | apply below_drew1)) hb; have hl : w15.heap.size ≤ _ := below_size (w := w15) (by repeat (first | exact Below.refl _ _ | apply below_alloc | apply pw_below_drewN | apply below_drew1)); have SZ16 := Aside0.mk (show w15.heap.size ≤ w16.heap.size from hs.size); replace HOm := Aside0.mk (Kd.R_below HOm.out hs); replace BKg1 := Aside0.mk (blk_below BKg1.out hs); replace HOx := Aside0.mk (Kd.R_below HOx.out hs); replace BKg3 := Aside0.mk (blk_below BKg3.out hs); replace HOy := Aside0.mk (Kd.R_below HOy.out hs); replace BKg4 := Aside0.mk (blk_below BKg4.out hs); replace HOa := Aside0.mk (Kd.R_below HOa.out hs); replace BKg5 := Aside0.mk (blk_below BKg5.out hs); replace HOr := Aside0.mk (Kd.R_below HOr.out hs); replace BKg43 := Aside0.mk (blk_below BKg43.out hs); have HOb := Aside0.mk (R_iv ho (below_size (by repeat (first | exact HB.out | apply below_alloc | apply pw_below_drewN | apply below_drew1))) hl); replace HB := Aside0.mk (below_step HB.out hs); clear ho; obtain ⟨b_A, b_c, e_⟩ := Kd.R_slice HOb.out; subst e_; clear hb hs; (try clear hl); have hcg1_0 : w16.cell? ⟨g1, 0, none⟩ = some (.int .i64 2) := (blk_cell BKg1.out 0).trans rfl; have hfg1_0 := blk_frozen BKg1.out 0; have hcg1_1 : w16.cell? ⟨g1, 1, none⟩ = some (.int .i64 1) := (blk_cell BKg1.out 1).trans rfl; have hfg1_1 := blk_frozen BKg1.out 1; have hcg1_2 : w16.cell? ⟨g1, 2, none⟩ = some (.int .i64 16) := (blk_cell BKg1.out 2).trans rfl; have hfg1_2 := blk_frozen BKg1.out 2; have hcg1_3 : w16.cell? ⟨g1, 3, none⟩ = some (.int .i64 8) := (blk_cell BKg1.out 3).trans rfl; have hfg1_3 := blk_frozen BKg1.out 3; have hcg1_4 : w16.cell? ⟨g1, 4, none⟩ = some (.slice m_A alB.length m_c) := (blk_cell BKg1.out 4).trans rfl; have hfg1_4 := blk_frozen BKg1.out 4; clear tok12; have tok13 : True := trivial) | (have _ := tok13; (with_reducible refine gate_dst (N := 9) rfl ?_); refine box_event ?hg (N := 9) ?hd (cs := #[.int .i64 0, .int .i64 0, .int .i64 0, .int .i64 0, .slice none 0 0]) (t := 27) ?hr ?_; (case hd => rfl); (case hg => rfl); (case hr => first | (go_simp; done) | (go_simp; rfl)); intro g9 hg w17 hbox hb; have hs : Below w16.heap.size w16 w17 := below_step (by repeat (first | exact Below.refl _ _ | apply below_alloc | apply pw_below_drewN | apply below_drew1)) hb; have SZ17 := Aside0.mk (show w16.heap.size ≤ g9 ∧ g9 < w17.heap.size from ⟨by rw [hg]; exact (below_size (by repeat (first | exact Below.refl _ _ | apply below_alloc | apply pw_below_drewN | apply below_drew1))), blk_lt hbox⟩); (try clear hcg1_0 hfg1_0); (try clear hcg1_1 hfg1_1); (try clear hcg1_2 hfg1_2); (try clear hcg1_3 hfg1_3); (try clear hcg1_4 hfg1_4); replace HOm := Aside0.mk (Kd.R_below HOm.out hs); replace BKg1 := Aside0.mk (blk_below BKg1.out hs); replace HOx := Aside0.mk (Kd.R_below HOx.out hs); replace BKg3 := Aside0.mk (blk_below BKg3.out hs); replace HOy := Aside0.mk (Kd.R_below HOy.out hs); replace BKg4 := Aside0.mk (blk_below BKg4.out hs); replace HOa := Aside0.mk (Kd.R_below HOa.out hs); replace BKg5 := Aside0.mk (blk_below BKg5.out hs); replace HOr := Aside0.mk (Kd.R_below HOr.out hs); replace BKg43 := Aside0.mk (blk_below BKg43.out hs); replace HOb := Aside0.mk (Kd.R_below HOb.out hs); replace HB := Aside0.mk (below_step HB.out hs); have hneg1_g9 : g1 ≠ g9 := (by have := SZ17.out; have := SZ1.out; have := SZ2.out; have := SZ3.out; have := SZ4.out; have := SZ5.out; have := SZ6.out; have := SZ7.out; have := SZ8.out; have := SZ9.out; have := SZ10.out; have := SZ11.out; have := SZ12.out; have := SZ13.out; have := SZ14.out; have := SZ15.out; have := SZ16.out; omega); have hneg9_g1 : g9 ≠ g1 := hneg1_g9.symm; have hneg3_g9 : g3 ≠ g9 := (by have := SZ17.out; have := SZ1.out; have := SZ2.out; have := SZ3.out; have := SZ4.out; have := SZ5.out; have := SZ6.out; have := SZ7.out; have := SZ8.out; have := SZ9.out; have := SZ10.out; have := SZ11.out; have := SZ12.out; have := SZ13.out; have := SZ14.out; have := SZ15.out; have := SZ16.out; omega); have hneg9_g3 : g9 ≠ g3 := hneg3_g9.symm; have hneg4_g9 : g4 ≠ g9 := (by have := SZ17.out; have := SZ1.out; have := SZ2.out; have := SZ3.out; have := SZ4.out; have := SZ5.out; have := SZ6.out; have := SZ7.out; have := SZ8.out; have := SZ9.out; have := SZ10.out; have := SZ11.out; have := SZ12.out; have := SZ13.out; have := SZ14.out; have := SZ15.out; have := SZ16.out; omega); have hneg9_g4 : g9 ≠ g4 := hneg4_g9.symm; have hneg5_g9 : g5 ≠ g9 := (by have := SZ17.out; have := SZ1.out; have := SZ2.out; have := SZ3.out; have := SZ4.out; have := SZ5.out; have := SZ6.out; have := SZ7.out; have := SZ8.out; have := SZ9.out; have := SZ10.out; have := SZ11.out; have := SZ12.out; have := SZ13.out; have := SZ14.out; have := SZ15.out; have := SZ16.out; omega); have hneg9_g5 : g9 ≠ g5 := hneg5_g9.symm; have hneg43_g9 : g43 ≠ g9 := (by have := SZ17.out; have := SZ1.out; have := SZ2.out; have := SZ3.out; have := SZ4.out; have := SZ5.out; have := SZ6.out; have := SZ7.out; have := SZ8.out; have := SZ9.out; have := SZ10.out; have := SZ11.out; have := SZ12.out; have := SZ13.out; have := SZ14.out; have := SZ15.out; have := SZ16.out; omega); have hneg9_g43 : g9 ≠ g43 := hneg43_g9.symm; have BKg9 := Aside0.mk hbox; clear hb hbox hg hs; have hcg1_0 : w17.cell? ⟨g1, 0, none⟩ = some (.int .i64 2) := (blk_cell BKg1.out 0).trans rfl; have hfg1_0 := blk_frozen BKg1.out 0; have hcg1_1 : w17.cell? ⟨g1, 1, none⟩ = some (.int .i64 1) := (blk_cell BKg1.out 1).trans rfl; have hfg1_1 := blk_frozen BKg1.out 1; have hcg1_2 : w17.cell? ⟨g1, 2, none⟩ = some (.int .i64 16) := (blk_cell BKg1.out 2).trans rfl; have hfg1_2 := blk_frozen BKg1.out 2; have hcg1_3 : w17.cell? ⟨g1, 3, none⟩ = some (.int .i64 8) := (blk_cell BKg1.out 3).trans rfl; have hfg1_3 := blk_frozen BKg1.out 3; have hcg1_4 : w17.cell? ⟨g1, 4, none⟩ = some (.slice m_A alB.length m_c) := (blk_cell BKg1.out 4).trans rfl; have hfg1_4 := blk_frozen BKg1.out 4; have hcg9_0 : w17.cell? ⟨g9, 0, none⟩ = some (.int .i64 0) := (blk_cell BKg9.out 0).trans rfl; have hfg9_0 := blk_frozen BKg9.out 0; have hcg9_1 : w17.cell? ⟨g9, 1, none⟩ = some (.int .i64 0) := (blk_cell BKg9.out 1).trans rfl; have hfg9_1 := blk_frozen BKg9.out 1; have hcg9_2 : w17.cell? ⟨g9, 2, none⟩ = some (.int .i64 0) := (blk_cell BKg9.out 2).trans rfl; have hfg9_2 := blk_frozen BKg9.out 2; have hcg9_3 : w17.cell? ⟨g9, 3, none⟩ = some (.int .i64 0) := (blk_cell BKg9.out 3).trans rfl; have hfg9_3 := blk_frozen BKg9.out 3; have hcg9_4 : w17.cell? ⟨g9, 4, none⟩ = some (.slice none 0 0) := (blk_cell BKg9.out 4).trans rfl; have hfg9_4 := blk_frozen BKg9.out 4; clear tok13))
  (try clear hcg1_0 hfg1_0)
  (try clear hcg1_1 hfg1_1)
  (try clear hcg1_2 hfg1_2)
  (try clear hcg1_3 hfg1_3)
  (try clear hcg1_4 hfg1_4)
  (try clear hcg9_0 hfg9_0)
  (try clear hcg9_1 hfg9_1)
  (try clear hcg9_2 hfg9_2)
  (try clear hcg9_3 hfg9_3)
  (try clear hcg9_4 hfg9_4)
  replace HOm := Aside0.mk (Kd.R_far HOm.out (p := ⟨g9, 0, none⟩) (Iv_ne (g := g9) (by have := SZ1.out; have := SZ2.out; have := SZ3.out; have := SZ4.out; have := SZ5.out; have := SZ6.out; have := SZ7.out; have := SZ8.out; have := SZ9.out; have := SZ10.out; have := SZ11.out; have := SZ12.out; have := SZ13.out; have := SZ14.out; have := SZ15.out; have := SZ16.out; have := SZ17.out; omega)) (.int .i64 2))
  replace BKg1 := Aside0.mk (blk_far BKg1.out (p := ⟨g9, 0, none⟩) (by show _ ≠ _; have := SZ1.out; have := SZ2.out; have := SZ3.out; have := SZ4.out; have := SZ5.out; have := SZ6.out; have := SZ7.out; have := SZ8.out; have := SZ9.out; have := SZ10.out; have := SZ11.out; have := SZ12.out; have := SZ13.out; have := SZ14.out; have := SZ15.out; have := SZ16.out; have := SZ17.out; omega) (.int .i64 2))
  replace HOx := Aside0.mk (Kd.R_far HOx.out (p := ⟨g9, 0, none⟩) (Iv_ne (g := g9) (by have := SZ1.out; have := SZ2.out; have := SZ3.out; have := SZ4.out; have := SZ5.out; have := SZ6.out; have := SZ7.out; have := SZ8.out; have := SZ9.out; have := SZ10.out; have := SZ11.out; have := SZ12.out; have := SZ13.out; have := SZ14.out; have := SZ15.out; have := SZ16.out; have := SZ17.out; omega)) (.int .i64 2))
  replace BKg3 := Aside0.mk (blk_far BKg3.out (p := ⟨g9, 0, none⟩) (by show _ ≠ _; have := SZ1.out; have := SZ2.out; have := SZ3.out; have := SZ4.out; have := SZ5.out; have := SZ6.out; have := SZ7.out; have := SZ8.out; have := SZ9.out; have := SZ10.out; have := SZ11.out; have := SZ12.out; have := SZ13.out; have := SZ14.out; have := SZ15.out; have := SZ16.out; have := SZ17.out; omega) (.int .i64 2))
  replace HOy := Aside0.mk (Kd.R_far HOy.out (p := ⟨g9, 0, none⟩) (Iv_ne (g := g9) (by have := SZ1.out; have := SZ2.out; have := SZ3.out; have := SZ4.out; have := SZ5.out; have := SZ6.out; have := SZ7.out; have := SZ8.out; have := SZ9.out; have := SZ10.out; have := SZ11.out; have := SZ12.out; have := SZ13.out; have := SZ14.out; have := SZ15.out; have := SZ16.out; have := SZ17.out; omega)) (.int .i64 2))
  replace BKg4 := Aside0.mk (blk_far BKg4.out (p := ⟨g9, 0, none⟩) (by show _ ≠ _; have := SZ1.out; have := SZ2.out; have := SZ3.out; have := SZ4.out; have := SZ5.out; have := SZ6.out; have := SZ7.out; have := SZ8.out; have := SZ9.out; have := SZ10.out; have := SZ11.out; have := SZ12.out; have := SZ13.out; have := SZ14.out; have := SZ15.out; have := SZ16.out; have := SZ17.out; omega) (.int .i64 2))
  replace HOa := Aside0.mk (Kd.R_far HOa.out (p := ⟨g9, 0, none⟩) (Iv_ne (g := g9) (by have := SZ1.out; have := SZ2.out; have := SZ3.out; have := SZ4.out; have := SZ5.out; have := SZ6.out; have := SZ7.out; have := SZ8.out; have := SZ9.out; have := SZ10.out; have := SZ11.out; have := SZ12.out; have := SZ13.out; have := SZ14.out; have := SZ15.out; have := SZ16.out; have := SZ17.out; omega)) (.int .i64 2))
  replace BKg5 := Aside0.mk (blk_far BKg5.out (p := ⟨g9, 0, none⟩) (by show _ ≠ _; have := SZ1.out; have := SZ2.out; have := SZ3.out; have := SZ4.out; have := SZ5.out; have := SZ6.out; have := SZ7.out; have := SZ8.out; have := SZ9.out; have := SZ10.out; have := SZ11.out; have := SZ12.out; have := SZ13.out; have := SZ14.out; have := SZ15.out; have := SZ16.out; have := SZ17.out; omega) (.int .i64 2))
  replace HOr := Aside0.mk (Kd.R_far HOr.out (p := ⟨g9, 0, none⟩) (Iv_ne (g := g9) (by have := SZ1.out; have := SZ2.out; have := SZ3.out; have := SZ4.out; have := SZ5.out; have := SZ6.out; have := SZ7.out; have := SZ8.out; have := SZ9.out; have := SZ10.out; have := SZ11.out; have := SZ12.out; have := SZ13.out; have := SZ14.out; have := SZ15.out; have := SZ16.out; have := SZ17.out; omega)) (.int .i64 2))
  replace BKg43 := Aside0.mk (blk_far BKg43.out (p := ⟨g9, 0, none⟩) (by show _ ≠ _; have := SZ1.out; have := SZ2.out; have := SZ3.out; have := SZ4.out; have := SZ5.out; have := SZ6.out; have := SZ7.out; have := SZ8.out; have := SZ9.out; have := SZ10.out; have := SZ11.out; have := SZ12.out; have := SZ13.out; have := SZ14.out; have := SZ15.out; have := SZ16.out; have := SZ17.out; omega) (.int .i64 2))
  replace HOb := Aside0.mk (Kd.R_far HOb.out (p := ⟨g9, 0, none⟩) (Iv_ne (g := g9) (by have := SZ1.out; have := SZ2.out; have := SZ3.out; have := SZ4.out; have := SZ5.out; have := SZ6.out; have := SZ7.out; have := SZ8.out; have := SZ9.out; have := SZ10.out; have := SZ11.out; have := SZ12.out; have := SZ13.out; have := SZ14.out; have := SZ15.out; have := SZ16.out; have := SZ17.out; omega)) (.int .i64 2))
  replace BKg9 := Aside0.mk (blk_put BKg9.out 0 (.int .i64 2) rfl)
  replace HB := Aside0.mk (below_set HB.out (by have := SZ1.out; have := SZ2.out; have := SZ3.out; have := SZ4.out; have := SZ5.out; have := SZ6.out; have := SZ7.out; have := SZ8.out; have := SZ9.out; have := SZ10.out; have := SZ11.out; have := SZ12.out; have := SZ13.out; have := SZ14.out; have := SZ15.out; have := SZ16.out; have := SZ17.out; omega : w.heap.size ≤ g9) (j := 0) (v := .int .i64 2))
  replace HOm := Aside0.mk (Kd.R_far HOm.out (p := ⟨g9, 1, none⟩) (Iv_ne (g := g9) (by have := SZ1.out; have := SZ2.out; have := SZ3.out; have := SZ4.out; have := SZ5.out; have := SZ6.out; have := SZ7.out; have := SZ8.out; have := SZ9.out; have := SZ10.out; have := SZ11.out; have := SZ12.out; have := SZ13.out; have := SZ14.out; have := SZ15.out; have := SZ16.out; have := SZ17.out; omega)) (.int .i64 1))
  replace BKg1 := Aside0.mk (blk_far BKg1.out (p := ⟨g9, 1, none⟩) (by show _ ≠ _; have := SZ1.out; have := SZ2.out; have := SZ3.out; have := SZ4.out; have := SZ5.out; have := SZ6.out; have := SZ7.out; have := SZ8.out; have := SZ9.out; have := SZ10.out; have := SZ11.out; have := SZ12.out; have := SZ13.out; have := SZ14.out; have := SZ15.out; have := SZ16.out; have := SZ17.out; omega) (.int .i64 1))
  replace HOx := Aside0.mk (Kd.R_far HOx.out (p := ⟨g9, 1, none⟩) (Iv_ne (g := g9) (by have := SZ1.out; have := SZ2.out; have := SZ3.out; have := SZ4.out; have := SZ5.out; have := SZ6.out; have := SZ7.out; have := SZ8.out; have := SZ9.out; have := SZ10.out; have := SZ11.out; have := SZ12.out; have := SZ13.out; have := SZ14.out; have := SZ15.out; have := SZ16.out; have := SZ17.out; omega)) (.int .i64 1))
  replace BKg3 := Aside0.mk (blk_far BKg3.out (p := ⟨g9, 1, none⟩) (by show _ ≠ _; have := SZ1.out; have := SZ2.out; have := SZ3.out; have := SZ4.out; have := SZ5.out; have := SZ6.out; have := SZ7.out; have := SZ8.out; have := SZ9.out; have := SZ10.out; have := SZ11.out; have := SZ12.out; have := SZ13.out; have := SZ14.out; have := SZ15.out; have := SZ16.out; have := SZ17.out; omega) (.int .i64 1))
  replace HOy := Aside0.mk (Kd.R_far HOy.out (p := ⟨g9, 1, none⟩) (Iv_ne (g := g9) (by have := SZ1.out; have := SZ2.out; have := SZ3.out; have := SZ4.out; have := SZ5.out; have := SZ6.out; have := SZ7.out; have := SZ8.out; have := SZ9.out; have := SZ10.out; have := SZ11.out; have := SZ12.out; have := SZ13.out; have := SZ14.out; have := SZ15.out; have := SZ16.out; have := SZ17.out; omega)) (.int .i64 1))
  replace BKg4 := Aside0.mk (blk_far BKg4.out (p := ⟨g9, 1, none⟩) (by show _ ≠ _; have := SZ1.out; have := SZ2.out; have := SZ3.out; have := SZ4.out; have := SZ5.out; have := SZ6.out; have := SZ7.out; have := SZ8.out; have := SZ9.out; have := SZ10.out; have := SZ11.out; have := SZ12.out; have := SZ13.out; have := SZ14.out; have := SZ15.out; have := SZ16.out; have := SZ17.out; omega) (.int .i64 1))
  replace HOa := Aside0.mk (Kd.R_far HOa.out (p := ⟨g9, 1, none⟩) (Iv_ne (g := g9) (by have := SZ1.out; have := SZ2.out; have := SZ3.out; have := SZ4.out; have := SZ5.out; have := SZ6.out; have := SZ7.out; have := SZ8.out; have := SZ9.out; have := SZ10.out; have := SZ11.out; have := SZ12.out; have := SZ13.out; have := SZ14.out; have := SZ15.out; have := SZ16.out; have := SZ17.out; omega)) (.int .i64 1))
  replace BKg5 := Aside0.mk (blk_far BKg5.out (p := ⟨g9, 1, none⟩) (by show _ ≠ _; have := SZ1.out; have := SZ2.out; have := SZ3.out; have := SZ4.out; have := SZ5.out; have := SZ6.out; have := SZ7.out; have := SZ8.out; have := SZ9.out; have := SZ10.out; have := SZ11.out; have := SZ12.out; have := SZ13.out; have := SZ14.out; have := SZ15.out; have := SZ16.out; have := SZ17.out; omega) (.int .i64 1))
  replace HOr := Aside0.mk (Kd.R_far HOr.out (p := ⟨g9, 1, none⟩) (Iv_ne (g := g9) (by have := SZ1.out; have := SZ2.out; have := SZ3.out; have := SZ4.out; have := SZ5.out; have := SZ6.out; have := SZ7.out; have := SZ8.out; have := SZ9.out; have := SZ10.out; have := SZ11.out; have := SZ12.out; have := SZ13.out; have := SZ14.out; have := SZ15.out; have := SZ16.out; have := SZ17.out; omega)) (.int .i64 1))
  replace BKg43 := Aside0.mk (blk_far BKg43.out (p := ⟨g9, 1, none⟩) (by show _ ≠ _; have := SZ1.out; have := SZ2.out; have := SZ3.out; have := SZ4.out; have := SZ5.out; have := SZ6.out; have := SZ7.out; have := SZ8.out; have := SZ9.out; have := SZ10.out; have := SZ11.out; have := SZ12.out; have := SZ13.out; have := SZ14.out; have := SZ15.out; have := SZ16.out; have := SZ17.out; omega) (.int .i64 1))
  replace HOb := Aside0.mk (Kd.R_far HOb.out (p := ⟨g9, 1, none⟩) (Iv_ne (g := g9) (by have := SZ1.out; have := SZ2.out; have := SZ3.out; have := SZ4.out; have := SZ5.out; have := SZ6.out; have := SZ7.out; have := SZ8.out; have := SZ9.out; have := SZ10.out; have := SZ11.out; have := SZ12.out; have := SZ13.out; have := SZ14.out; have := SZ15.out; have := SZ16.out; have := SZ17.out; omega)) (.int .i64 1))
  replace BKg9 := Aside0.mk (blk_put BKg9.out 1 (.int .i64 1) rfl)
  replace HB := Aside0.mk (below_set HB.out (by have := SZ1.out; have := SZ2.out; have := SZ3.out; have := SZ4.out; have := SZ5.out; have := SZ6.out; have := SZ7.out; have := SZ8.out; have := SZ9.out; have := SZ10.out; have := SZ11.out; have := SZ12.out; have := SZ13.out; have := SZ14.out; have := SZ15.out; have := SZ16.out; have := SZ17.out; omega : w.heap.size ≤ g9) (j := 1) (v := .int .i64 1))
  replace HOm := Aside0.mk (Kd.R_far HOm.out (p := ⟨g9, 2, none⟩) (Iv_ne (g := g9) (by have := SZ1.out; have := SZ2.out; have := SZ3.out; have := SZ4.out; have := SZ5.out; have := SZ6.out; have := SZ7.out; have := SZ8.out; have := SZ9.out; have := SZ10.out; have := SZ11.out; have := SZ12.out; have := SZ13.out; have := SZ14.out; have := SZ15.out; have := SZ16.out; have := SZ17.out; omega)) (.int .i64 16))
  replace BKg1 := Aside0.mk (blk_far BKg1.out (p := ⟨g9, 2, none⟩) (by show _ ≠ _; have := SZ1.out; have := SZ2.out; have := SZ3.out; have := SZ4.out; have := SZ5.out; have := SZ6.out; have := SZ7.out; have := SZ8.out; have := SZ9.out; have := SZ10.out; have := SZ11.out; have := SZ12.out; have := SZ13.out; have := SZ14.out; have := SZ15.out; have := SZ16.out; have := SZ17.out; omega) (.int .i64 16))
  replace HOx := Aside0.mk (Kd.R_far HOx.out (p := ⟨g9, 2, none⟩) (Iv_ne (g := g9) (by have := SZ1.out; have := SZ2.out; have := SZ3.out; have := SZ4.out; have := SZ5.out; have := SZ6.out; have := SZ7.out; have := SZ8.out; have := SZ9.out; have := SZ10.out; have := SZ11.out; have := SZ12.out; have := SZ13.out; have := SZ14.out; have := SZ15.out; have := SZ16.out; have := SZ17.out; omega)) (.int .i64 16))
  replace BKg3 := Aside0.mk (blk_far BKg3.out (p := ⟨g9, 2, none⟩) (by show _ ≠ _; have := SZ1.out; have := SZ2.out; have := SZ3.out; have := SZ4.out; have := SZ5.out; have := SZ6.out; have := SZ7.out; have := SZ8.out; have := SZ9.out; have := SZ10.out; have := SZ11.out; have := SZ12.out; have := SZ13.out; have := SZ14.out; have := SZ15.out; have := SZ16.out; have := SZ17.out; omega) (.int .i64 16))
  replace HOy := Aside0.mk (Kd.R_far HOy.out (p := ⟨g9, 2, none⟩) (Iv_ne (g := g9) (by have := SZ1.out; have := SZ2.out; have := SZ3.out; have := SZ4.out; have := SZ5.out; have := SZ6.out; have := SZ7.out; have := SZ8.out; have := SZ9.out; have := SZ10.out; have := SZ11.out; have := SZ12.out; have := SZ13.out; have := SZ14.out; have := SZ15.out; have := SZ16.out; have := SZ17.out; omega)) (.int .i64 16))
  replace BKg4 := Aside0.mk (blk_far BKg4.out (p := ⟨g9, 2, none⟩) (by show _ ≠ _; have := SZ1.out; have := SZ2.out; have := SZ3.out; have := SZ4.out; have := SZ5.out; have := SZ6.out; have := SZ7.out; have := SZ8.out; have := SZ9.out; have := SZ10.out; have := SZ11.out; have := SZ12.out; have := SZ13.out; have := SZ14.out; have := SZ15.out; have := SZ16.out; have := SZ17.out; omega) (.int .i64 16))
  replace HOa := Aside0.mk (Kd.R_far HOa.out (p := ⟨g9, 2, none⟩) (Iv_ne (g := g9) (by have := SZ1.out; have := SZ2.out; have := SZ3.out; have := SZ4.out; have := SZ5.out; have := SZ6.out; have := SZ7.out; have := SZ8.out; have := SZ9.out; have := SZ10.out; have := SZ11.out; have := SZ12.out; have := SZ13.out; have := SZ14.out; have := SZ15.out; have := SZ16.out; have := SZ17.out; omega)) (.int .i64 16))
  replace BKg5 := Aside0.mk (blk_far BKg5.out (p := ⟨g9, 2, none⟩) (by show _ ≠ _; have := SZ1.out; have := SZ2.out; have := SZ3.out; have := SZ4.out; have := SZ5.out; have := SZ6.out; have := SZ7.out; have := SZ8.out; have := SZ9.out; have := SZ10.out; have := SZ11.out; have := SZ12.out; have := SZ13.out; have := SZ14.out; have := SZ15.out; have := SZ16.out; have := SZ17.out; omega) (.int .i64 16))
  replace HOr := Aside0.mk (Kd.R_far HOr.out (p := ⟨g9, 2, none⟩) (Iv_ne (g := g9) (by have := SZ1.out; have := SZ2.out; have := SZ3.out; have := SZ4.out; have := SZ5.out; have := SZ6.out; have := SZ7.out; have := SZ8.out; have := SZ9.out; have := SZ10.out; have := SZ11.out; have := SZ12.out; have := SZ13.out; have := SZ14.out; have := SZ15.out; have := SZ16.out; have := SZ17.out; omega)) (.int .i64 16))
  replace BKg43 := Aside0.mk (blk_far BKg43.out (p := ⟨g9, 2, none⟩) (by show _ ≠ _; have := SZ1.out; have := SZ2.out; have := SZ3.out; have := SZ4.out; have := SZ5.out; have := SZ6.out; have := SZ7.out; have := SZ8.out; have := SZ9.out; have := SZ10.out; have := SZ11.out; have := SZ12.out; have := SZ13.out; have := SZ14.out; have := SZ15.out; have := SZ16.out; have := SZ17.out; omega) (.int .i64 16))
  replace HOb := Aside0.mk (Kd.R_far HOb.out (p := ⟨g9, 2, none⟩) (Iv_ne (g := g9) (by have := SZ1.out; have := SZ2.out; have := SZ3.out; have := SZ4.out; have := SZ5.out; have := SZ6.out; have := SZ7.out; have := SZ8.out; have := SZ9.out; have := SZ10.out; have := SZ11.out; have := SZ12.out; have := SZ13.out; have := SZ14.out; have := SZ15.out; have := SZ16.out; have := SZ17.out; omega)) (.int .i64 16))
  replace BKg9 := Aside0.mk (blk_put BKg9.out 2 (.int .i64 16) rfl)
  replace HB := Aside0.mk (below_set HB.out (by have := SZ1.out; have := SZ2.out; have := SZ3.out; have := SZ4.out; have := SZ5.out; have := SZ6.out; have := SZ7.out; have := SZ8.out; have := SZ9.out; have := SZ10.out; have := SZ11.out; have := SZ12.out; have := SZ13.out; have := SZ14.out; have := SZ15.out; have := SZ16.out; have := SZ17.out; omega : w.heap.size ≤ g9) (j := 2) (v := .int .i64 16))
  replace HOm := Aside0.mk (Kd.R_far HOm.out (p := ⟨g9, 3, none⟩) (Iv_ne (g := g9) (by have := SZ1.out; have := SZ2.out; have := SZ3.out; have := SZ4.out; have := SZ5.out; have := SZ6.out; have := SZ7.out; have := SZ8.out; have := SZ9.out; have := SZ10.out; have := SZ11.out; have := SZ12.out; have := SZ13.out; have := SZ14.out; have := SZ15.out; have := SZ16.out; have := SZ17.out; omega)) (.int .i64 8))
  replace BKg1 := Aside0.mk (blk_far BKg1.out (p := ⟨g9, 3, none⟩) (by show _ ≠ _; have := SZ1.out; have := SZ2.out; have := SZ3.out; have := SZ4.out; have := SZ5.out; have := SZ6.out; have := SZ7.out; have := SZ8.out; have := SZ9.out; have := SZ10.out; have := SZ11.out; have := SZ12.out; have := SZ13.out; have := SZ14.out; have := SZ15.out; have := SZ16.out; have := SZ17.out; omega) (.int .i64 8))
  replace HOx := Aside0.mk (Kd.R_far HOx.out (p := ⟨g9, 3, none⟩) (Iv_ne (g := g9) (by have := SZ1.out; have := SZ2.out; have := SZ3.out; have := SZ4.out; have := SZ5.out; have := SZ6.out; have := SZ7.out; have := SZ8.out; have := SZ9.out; have := SZ10.out; have := SZ11.out; have := SZ12.out; have := SZ13.out; have := SZ14.out; have := SZ15.out; have := SZ16.out; have := SZ17.out; omega)) (.int .i64 8))
  replace BKg3 := Aside0.mk (blk_far BKg3.out (p := ⟨g9, 3, none⟩) (by show _ ≠ _; have := SZ1.out; have := SZ2.out; have := SZ3.out; have := SZ4.out; have := SZ5.out; have := SZ6.out; have := SZ7.out; have := SZ8.out; have := SZ9.out; have := SZ10.out; have := SZ11.out; have := SZ12.out; have := SZ13.out; have := SZ14.out; have := SZ15.out; have := SZ16.out; have := SZ17.out; omega) (.int .i64 8))
  replace HOy := Aside0.mk (Kd.R_far HOy.out (p := ⟨g9, 3, none⟩) (Iv_ne (g := g9) (by have := SZ1.out; have := SZ2.out; have := SZ3.out; have := SZ4.out; have := SZ5.out; have := SZ6.out; have := SZ7.out; have := SZ8.out; have := SZ9.out; have := SZ10.out; have := SZ11.out; have := SZ12.out; have := SZ13.out; have := SZ14.out; have := SZ15.out; have := SZ16.out; have := SZ17.out; omega)) (.int .i64 8))
  replace BKg4 := Aside0.mk (blk_far BKg4.out (p := ⟨g9, 3, none⟩) (by show _ ≠ _; have := SZ1.out; have := SZ2.out; have := SZ3.out; have := SZ4.out; have := SZ5.out; have := SZ6.out; have := SZ7.out; have := SZ8.out; have := SZ9.out; have := SZ10.out; have := SZ11.out; have := SZ12.out; have := SZ13.out; have := SZ14.out; have := SZ15.out; have := SZ16.out; have := SZ17.out; omega) (.int .i64 8))
  replace HOa := Aside0.mk (Kd.R_far HOa.out (p := ⟨g9, 3, none⟩) (Iv_ne (g := g9) (by have := SZ1.out; have := SZ2.out; have := SZ3.out; have := SZ4.out; have := SZ5.out; have := SZ6.out; have := SZ7.out; have := SZ8.out; have := SZ9.out; have := SZ10.out; have := SZ11.out; have := SZ12.out; have := SZ13.out; have := SZ14.out; have := SZ15.out; have := SZ16.out; have := SZ17.out; omega)) (.int .i64 8))
  replace BKg5 := Aside0.mk (blk_far BKg5.out (p := ⟨g9, 3, none⟩) (by show _ ≠ _; have := SZ1.out; have := SZ2.out; have := SZ3.out; have := SZ4.out; have := SZ5.out; have := SZ6.out; have := SZ7.out; have := SZ8.out; have := SZ9.out; have := SZ10.out; have := SZ11.out; have := SZ12.out; have := SZ13.out; have := SZ14.out; have := SZ15.out; have := SZ16.out; have := SZ17.out; omega) (.int .i64 8))
  replace HOr := Aside0.mk (Kd.R_far HOr.out (p := ⟨g9, 3, none⟩) (Iv_ne (g := g9) (by have := SZ1.out; have := SZ2.out; have := SZ3.out; have := SZ4.out; have := SZ5.out; have := SZ6.out; have := SZ7.out; have := SZ8.out; have := SZ9.out; have := SZ10.out; have := SZ11.out; have := SZ12.out; have := SZ13.out; have := SZ14.out; have := SZ15.out; have := SZ16.out; have := SZ17.out; omega)) (.int .i64 8))
  replace BKg43 := Aside0.mk (blk_far BKg43.out (p := ⟨g9, 3, none⟩) (by show _ ≠ _; have := SZ1.out; have := SZ2.out; have := SZ3.out; have := SZ4.out; have := SZ5.out; have := SZ6.out; have := SZ7.out; have := SZ8.out; have := SZ9.out; have := SZ10.out; have := SZ11.out; have := SZ12.out; have := SZ13.out; have := SZ14.out; have := SZ15.out; have := SZ16.out; have := SZ17.out; omega) (.int .i64 8))
  replace HOb := Aside0.mk (Kd.R_far HOb.out (p := ⟨g9, 3, none⟩) (Iv_ne (g := g9) (by have := SZ1.out; have := SZ2.out; have := SZ3.out; have := SZ4.out; have := SZ5.out; have := SZ6.out; have := SZ7.out; have := SZ8.out; have := SZ9.out; have := SZ10.out; have := SZ11.out; have := SZ12.out; have := SZ13.out; have := SZ14.out; have := SZ15.out; have := SZ16.out; have := SZ17.out; omega)) (.int .i64 8))
  replace BKg9 := Aside0.mk (blk_put BKg9.out 3 (.int .i64 8) rfl)
  replace HB := Aside0.mk (below_set HB.out (by have := SZ1.out; have := SZ2.out; have := SZ3.out; have := SZ4.out; have := SZ5.out; have := SZ6.out; have := SZ7.out; have := SZ8.out; have := SZ9.out; have := SZ10.out; have := SZ11.out; have := SZ12.out; have := SZ13.out; have := SZ14.out; have := SZ15.out; have := SZ16.out; have := SZ17.out; omega : w.heap.size ≤ g9) (j := 3) (v := .int .i64 8))
  replace HOm := Aside0.mk (Kd.R_far HOm.out (p := ⟨g9, 4, none⟩) (Iv_ne (g := g9) (by have := SZ1.out; have := SZ2.out; have := SZ3.out; have := SZ4.out; have := SZ5.out; have := SZ6.out; have := SZ7.out; have := SZ8.out; have := SZ9.out; have := SZ10.out; have := SZ11.out; have := SZ12.out; have := SZ13.out; have := SZ14.out; have := SZ15.out; have := SZ16.out; have := SZ17.out; omega)) (.slice b_A alC.length b_c))
  replace BKg1 := Aside0.mk (blk_far BKg1.out (p := ⟨g9, 4, none⟩) (by show _ ≠ _; have := SZ1.out; have := SZ2.out; have := SZ3.out; have := SZ4.out; have := SZ5.out; have := SZ6.out; have := SZ7.out; have := SZ8.out; have := SZ9.out; have := SZ10.out; have := SZ11.out; have := SZ12.out; have := SZ13.out; have := SZ14.out; have := SZ15.out; have := SZ16.out; have := SZ17.out; omega) (.slice b_A alC.length b_c))
  replace HOx := Aside0.mk (Kd.R_far HOx.out (p := ⟨g9, 4, none⟩) (Iv_ne (g := g9) (by have := SZ1.out; have := SZ2.out; have := SZ3.out; have := SZ4.out; have := SZ5.out; have := SZ6.out; have := SZ7.out; have := SZ8.out; have := SZ9.out; have := SZ10.out; have := SZ11.out; have := SZ12.out; have := SZ13.out; have := SZ14.out; have := SZ15.out; have := SZ16.out; have := SZ17.out; omega)) (.slice b_A alC.length b_c))
  replace BKg3 := Aside0.mk (blk_far BKg3.out (p := ⟨g9, 4, none⟩) (by show _ ≠ _; have := SZ1.out; have := SZ2.out; have := SZ3.out; have := SZ4.out; have := SZ5.out; have := SZ6.out; have := SZ7.out; have := SZ8.out; have := SZ9.out; have := SZ10.out; have := SZ11.out; have := SZ12.out; have := SZ13.out; have := SZ14.out; have := SZ15.out; have := SZ16.out; have := SZ17.out; omega) (.slice b_A alC.length b_c))
  replace HOy := Aside0.mk (Kd.R_far HOy.out (p := ⟨g9, 4, none⟩) (Iv_ne (g := g9) (by have := SZ1.out; have := SZ2.out; have := SZ3.out; have := SZ4.out; have := SZ5.out; have := SZ6.out; have := SZ7.out; have := SZ8.out; have := SZ9.out; have := SZ10.out; have := SZ11.out; have := SZ12.out; have := SZ13.out; have := SZ14.out; have := SZ15.out; have := SZ16.out; have := SZ17.out; omega)) (.slice b_A alC.length b_c))
  replace BKg4 := Aside0.mk (blk_far BKg4.out (p := ⟨g9, 4, none⟩) (by show _ ≠ _; have := SZ1.out; have := SZ2.out; have := SZ3.out; have := SZ4.out; have := SZ5.out; have := SZ6.out; have := SZ7.out; have := SZ8.out; have := SZ9.out; have := SZ10.out; have := SZ11.out; have := SZ12.out; have := SZ13.out; have := SZ14.out; have := SZ15.out; have := SZ16.out; have := SZ17.out; omega) (.slice b_A alC.length b_c))
  replace HOa := Aside0.mk (Kd.R_far HOa.out (p := ⟨g9, 4, none⟩) (Iv_ne (g := g9) (by have := SZ1.out; have := SZ2.out; have := SZ3.out; have := SZ4.out; have := SZ5.out; have := SZ6.out; have := SZ7.out; have := SZ8.out; have := SZ9.out; have := SZ10.out; have := SZ11.out; have := SZ12.out; have := SZ13.out; have := SZ14.out; have := SZ15.out; have := SZ16.out; have := SZ17.out; omega)) (.slice b_A alC.length b_c))
  replace BKg5 := Aside0.mk (blk_far BKg5.out (p := ⟨g9, 4, none⟩) (by show _ ≠ _; have := SZ1.out; have := SZ2.out; have := SZ3.out; have := SZ4.out; have := SZ5.out; have := SZ6.out; have := SZ7.out; have := SZ8.out; have := SZ9.out; have := SZ10.out; have := SZ11.out; have := SZ12.out; have := SZ13.out; have := SZ14.out; have := SZ15.out; have := SZ16.out; have := SZ17.out; omega) (.slice b_A alC.length b_c))
  replace HOr := Aside0.mk (Kd.R_far HOr.out (p := ⟨g9, 4, none⟩) (Iv_ne (g := g9) (by have := SZ1.out; have := SZ2.out; have := SZ3.out; have := SZ4.out; have := SZ5.out; have := SZ6.out; have := SZ7.out; have := SZ8.out; have := SZ9.out; have := SZ10.out; have := SZ11.out; have := SZ12.out; have := SZ13.out; have := SZ14.out; have := SZ15.out; have := SZ16.out; have := SZ17.out; omega)) (.slice b_A alC.length b_c))
  replace BKg43 := Aside0.mk (blk_far BKg43.out (p := ⟨g9, 4, none⟩) (by show _ ≠ _; have := SZ1.out; have := SZ2.out; have := SZ3.out; have := SZ4.out; have := SZ5.out; have := SZ6.out; have := SZ7.out; have := SZ8.out; have := SZ9.out; have := SZ10.out; have := SZ11.out; have := SZ12.out; have := SZ13.out; have := SZ14.out; have := SZ15.out; have := SZ16.out; have := SZ17.out; omega) (.slice b_A alC.length b_c))
  replace HOb := Aside0.mk (Kd.R_far HOb.out (p := ⟨g9, 4, none⟩) (Iv_ne (g := g9) (by have := SZ1.out; have := SZ2.out; have := SZ3.out; have := SZ4.out; have := SZ5.out; have := SZ6.out; have := SZ7.out; have := SZ8.out; have := SZ9.out; have := SZ10.out; have := SZ11.out; have := SZ12.out; have := SZ13.out; have := SZ14.out; have := SZ15.out; have := SZ16.out; have := SZ17.out; omega)) (.slice b_A alC.length b_c))
  replace BKg9 := Aside0.mk (blk_put BKg9.out 4 (.slice b_A alC.length b_c) rfl)
  replace HB := Aside0.mk (below_set HB.out (by have := SZ1.out; have := SZ2.out; have := SZ3.out; have := SZ4.out; have := SZ5.out; have := SZ6.out; have := SZ7.out; have := SZ8.out; have := SZ9.out; have := SZ10.out; have := SZ11.out; have := SZ12.out; have := SZ13.out; have := SZ14.out; have := SZ15.out; have := SZ16.out; have := SZ17.out; omega : w.heap.size ≤ g9) (j := 4) (v := .slice b_A alC.length b_c))
  have SZ18 := Aside0.mk (show w17.heap.size ≤ (((((w17.setCell ⟨g9, 0, none⟩ (.int .i64 2)).setCell ⟨g9, 1, none⟩ (.int .i64 1)).setCell ⟨g9, 2, none⟩ (.int .i64 16)).setCell ⟨g9, 3, none⟩ (.int .i64 8)).setCell ⟨g9, 4, none⟩ (.slice b_A alC.length b_c)).heap.size from by simp [World.setCell])
  generalize (((((w17.setCell ⟨g9, 0, none⟩ (.int .i64 2)).setCell ⟨g9, 1, none⟩ (.int .i64 1)).setCell ⟨g9, 2, none⟩ (.int .i64 16)).setCell ⟨g9, 3, none⟩ (.int .i64 8)).setCell ⟨g9, 4, none⟩ (.slice b_A alC.length b_c)) = w18 at HB HOm BKg1 HOx BKg3 HOy BKg4 HOa BKg5 HOr BKg43 HOb BKg9 SZ18 ⊢
  have hcg1_0 : w18.cell? ⟨g1, 0, none⟩ = some (.int .i64 2) := (blk_cell BKg1.out 0).trans rfl
  have hfg1_0 := blk_frozen BKg1.out 0
  have hcg1_1 : w18.cell? ⟨g1, 1, none⟩ = some (.int .i64 1) := (blk_cell BKg1.out 1).trans rfl
  have hfg1_1 := blk_frozen BKg1.out 1
  have hcg1_2 : w18.cell? ⟨g1, 2, none⟩ = some (.int .i64 16) := (blk_cell BKg1.out 2).trans rfl
  have hfg1_2 := blk_frozen BKg1.out 2
  have hcg1_3 : w18.cell? ⟨g1, 3, none⟩ = some (.int .i64 8) := (blk_cell BKg1.out 3).trans rfl
  have hfg1_3 := blk_frozen BKg1.out 3
  have hcg1_4 : w18.cell? ⟨g1, 4, none⟩ = some (.slice m_A alB.length m_c) := (blk_cell BKg1.out 4).trans rfl
  have hfg1_4 := blk_frozen BKg1.out 4
  have hcg9_0 : w18.cell? ⟨g9, 0, none⟩ = some (.int .i64 2) := (blk_cell BKg9.out 0).trans rfl
  have hfg9_0 := blk_frozen BKg9.out 0
  have hcg9_1 : w18.cell? ⟨g9, 1, none⟩ = some (.int .i64 1) := (blk_cell BKg9.out 1).trans rfl
  have hfg9_1 := blk_frozen BKg9.out 1
  have hcg9_2 : w18.cell? ⟨g9, 2, none⟩ = some (.int .i64 16) := (blk_cell BKg9.out 2).trans rfl
  have hfg9_2 := blk_frozen BKg9.out 2
  have hcg9_3 : w18.cell? ⟨g9, 3, none⟩ = some (.int .i64 8) := (blk_cell BKg9.out 3).trans rfl
  have hfg9_3 := blk_frozen BKg9.out 3
  have hcg9_4 : w18.cell? ⟨g9, 4, none⟩ = some (.slice b_A alC.length b_c) := (blk_cell BKg9.out 4).trans rfl
  have hfg9_4 := blk_frozen BKg9.out 4
  (try clear hcg1_0 hfg1_0)
  (try clear hcg1_1 hfg1_1)
  (try clear hcg1_2 hfg1_2)
  (try clear hcg1_3 hfg1_3)
  (try clear hcg1_4 hfg1_4)
  (try clear hcg9_0 hfg9_0)
  (try clear hcg9_1 hfg9_1)
  (try clear hcg9_2 hfg9_2)
  (try clear hcg9_3 hfg9_3)
  (try clear hcg9_4 hfg9_4)
  have hcg5_0 : w18.cell? ⟨g5, 0, none⟩ = some (.int .i64 2) := (blk_cell BKg5.out 0).trans rfl
  have hfg5_0 := blk_frozen BKg5.out 0
  have hcg5_1 : w18.cell? ⟨g5, 1, none⟩ = some (.int .i64 1) := (blk_cell BKg5.out 1).trans rfl
  have hfg5_1 := blk_frozen BKg5.out 1
  have hcg5_2 : w18.cell? ⟨g5, 2, none⟩ = some (.int .i64 16) := (blk_cell BKg5.out 2).trans rfl
  have hfg5_2 := blk_frozen BKg5.out 2
  have hcg5_3 : w18.cell? ⟨g5, 3, none⟩ = some (.int .i64 8) := (blk_cell BKg5.out 3).trans rfl
  have hfg5_3 := blk_frozen BKg5.out 3
  have hcg5_4 : w18.cell? ⟨g5, 4, none⟩ = some (.slice a_A alA.length a_c) := (blk_cell BKg5.out 4).trans rfl
  have hfg5_4 := blk_frozen BKg5.out 4
  have tok14 : True := trivial
  go_wp2_with (first | (have _ := tok14; go_at_call 14; (with_reducible refine (image_Diff.calls 100 2 1 16 8 m_A m_c alB 2 1 16 8 b_A b_c alC [⟨1, 2, 0, alY⟩] 0 _ ?s1 (Kd.R_reads' HOm.out).2.1 ?s2 (Kd.R_reads' HOb.out).2.1 alive_diff).mono ?_); (case s1 => exact (Kd.R_reads' (Kd.R_below HOm.out (by repeat (first | exact Below.refl _ _ | apply below_alloc | apply pw_below_drewN | apply below_drew1)))).2.2); (case s2 => exact (Kd.R_reads' (Kd.R_below HOb.out (by repeat (first | exact Below.refl _ _ | apply below_alloc | apply pw_below_drewN | apply below_drew1)))).2.2); rintro e w19 ⟨v_d, rfl, ho, hb⟩; (try clear hcg5_0 hfg5_0); (try clear hcg5_1 hfg5_1); (try clear hcg5_2 hfg5_2); (try clear hcg5_3 hfg5_3); (try clear hcg5_4 hfg5_4); have hs : Below w18.heap.size w18 w19 := below_step (by repeat (first | exact Below.refl _ _ | apply below_alloc | apply pw_below_drewN | apply below_drew1)) hb; have hl : w18.heap.size ≤ _ := below_size (w := w18) (by repeat (first | exact Below.refl _ _ | apply below_alloc | apply pw_below_drewN | apply below_drew1)); have SZ19 := Aside0.mk (show w18.heap.size ≤ w19.heap.size from hs.size); replace HOm := Aside0.mk (Kd.R_below HOm.out hs); replace BKg1 := Aside0.mk (blk_below BKg1.out hs); replace HOx := Aside0.mk (Kd.R_below HOx.out hs); replace BKg3 := Aside0.mk (blk_below BKg3.out hs); replace HOy := Aside0.mk (Kd.R_below HOy.out hs); replace BKg4 := Aside0.mk (blk_below BKg4.out hs); replace HOa := Aside0.mk (Kd.R_below HOa.out hs); replace BKg5 := Aside0.mk (blk_below BKg5.out hs); replace HOr := Aside0.mk (Kd.R_below HOr.out hs); replace BKg43 := Aside0.mk (blk_below BKg43.out hs); replace HOb := Aside0.mk (Kd.R_below HOb.out hs); replace BKg9 := Aside0.mk (blk_below BKg9.out hs); have HOd := Aside0.mk (R_iv (Kd.S_R ho) (below_size (by repeat (first | exact HB.out | apply below_alloc | apply pw_below_drewN | apply below_drew1))) hl); replace HB := Aside0.mk (below_step HB.out hs); clear ho; obtain ⟨d_A, d_c, e_⟩ := Kd.R_slice HOd.out; subst e_; clear hb hs; (try clear hl); have hcg5_0 : w19.cell? ⟨g5, 0, none⟩ = some (.int .i64 2) := (blk_cell BKg5.out 0).trans rfl; have hfg5_0 := blk_frozen BKg5.out 0; have hcg5_1 : w19.cell? ⟨g5, 1, none⟩ = some (.int .i64 1) := (blk_cell BKg5.out 1).trans rfl; have hfg5_1 := blk_frozen BKg5.out 1; have hcg5_2 : w19.cell? ⟨g5, 2, none⟩ = some (.int .i64 16) := (blk_cell BKg5.out 2).trans rfl; have hfg5_2 := blk_frozen BKg5.out 2; have hcg5_3 : w19.cell? ⟨g5, 3, none⟩ = some (.int .i64 8) := (blk_cell BKg5.out 3).trans rfl; have hfg5_3 := blk_frozen BKg5.out 3; have hcg5_4 : w19.cell? ⟨g5, 4, none⟩ = some (.slice a_A alA.length a_c) := (blk_cell BKg5.out 4).trans rfl; have hfg5_4 := blk_frozen BKg5.out 4; clear tok14))
  (try clear hcg5_0 hfg5_0)
  (try clear hcg5_1 hfg5_1)
  (try clear hcg5_2 hfg5_2)
  (try clear hcg5_3 hfg5_3)
  (try clear hcg5_4 hfg5_4)
  have hcg1_0 : w19.cell? ⟨g1, 0, none⟩ = some (.int .i64 2) := (blk_cell BKg1.out 0).trans rfl
  have hfg1_0 := blk_frozen BKg1.out 0
  have hcg1_1 : w19.cell? ⟨g1, 1, none⟩ = some (.int .i64 1) := (blk_cell BKg1.out 1).trans rfl
  have hfg1_1 := blk_frozen BKg1.out 1
  have hcg1_2 : w19.cell? ⟨g1, 2, none⟩ = some (.int .i64 16) := (blk_cell BKg1.out 2).trans rfl
  have hfg1_2 := blk_frozen BKg1.out 2
  have hcg1_3 : w19.cell? ⟨g1, 3, none⟩ = some (.int .i64 8) := (blk_cell BKg1.out 3).trans rfl
  have hfg1_3 := blk_frozen BKg1.out 3
  have hcg1_4 : w19.cell? ⟨g1, 4, none⟩ = some (.slice m_A alB.length m_c) := (blk_cell BKg1.out 4).trans rfl
  have hfg1_4 := blk_frozen BKg1.out 4
  have hcg5_0 : w19.cell? ⟨g5, 0, none⟩ = some (.int .i64 2) := (blk_cell BKg5.out 0).trans rfl
  have hfg5_0 := blk_frozen BKg5.out 0
  have hcg5_1 : w19.cell? ⟨g5, 1, none⟩ = some (.int .i64 1) := (blk_cell BKg5.out 1).trans rfl
  have hfg5_1 := blk_frozen BKg5.out 1
  have hcg5_2 : w19.cell? ⟨g5, 2, none⟩ = some (.int .i64 16) := (blk_cell BKg5.out 2).trans rfl
  have hfg5_2 := blk_frozen BKg5.out 2
  have hcg5_3 : w19.cell? ⟨g5, 3, none⟩ = some (.int .i64 8) := (blk_cell BKg5.out 3).trans rfl
  have hfg5_3 := blk_frozen BKg5.out 3
  have hcg5_4 : w19.cell? ⟨g5, 4, none⟩ = some (.slice a_A alA.length a_c) := (blk_cell BKg5.out 4).trans rfl
  have hfg5_4 := blk_frozen BKg5.out 4
  have tok15 : True := trivial
  go_wp2_with (first | (have _ := tok15; go_at_call 16; (with_reducible refine (image_Wiped.calls 100 2 1 16 8 a_A a_c alA 1 2 1 16 8 alB 0 _ ?s1 (Kd.R_reads' HOa.out).2.1 alive_wiped).mono ?_); (case s1 => exact (Kd.R_reads' (Kd.R_below HOa.out (by repeat (first | exact Below.refl _ _ | apply below_alloc | apply pw_below_drewN | apply below_drew1)))).2.2); rintro e w20 ⟨v_w, rfl, ho, hb⟩; (try clear hcg1_0 hfg1_0); (try clear hcg1_1 hfg1_1); (try clear hcg1_2 hfg1_2); (try clear hcg1_3 hfg1_3); (try clear hcg1_4 hfg1_4); (try clear hcg5_0 hfg5_0); (try clear hcg5_1 hfg5_1); (try clear hcg5_2 hfg5_2); (try clear hcg5_3 hfg5_3); (try clear hcg5_4 hfg5_4); have hs : Below w19.heap.size w19 w20 := below_step (by repeat (first | exact Below.refl _ _ | apply below_alloc | apply pw_below_drewN | apply below_drew1)) hb; have hl : w19.heap.size ≤ _ := below_size (w := w19) (by repeat (first | exact Below.refl _ _ | apply below_alloc | apply pw_below_drewN | apply below_drew1)); have SZ20 := Aside0.mk (show w19.heap.size ≤ w20.heap.size from hs.size); replace HOm := Aside0.mk (Kd.R_below HOm.out hs); replace BKg1 := Aside0.mk (blk_below BKg1.out hs); replace HOx := Aside0.mk (Kd.R_below HOx.out hs); replace BKg3 := Aside0.mk (blk_below BKg3.out hs); replace HOy := Aside0.mk (Kd.R_below HOy.out hs); replace BKg4 := Aside0.mk (blk_below BKg4.out hs); replace HOa := Aside0.mk (Kd.R_below HOa.out hs); replace BKg5 := Aside0.mk (blk_below BKg5.out hs); replace HOr := Aside0.mk (Kd.R_below HOr.out hs); replace BKg43 := Aside0.mk (blk_below BKg43.out hs); replace HOb := Aside0.mk (Kd.R_below HOb.out hs); replace BKg9 := Aside0.mk (blk_below BKg9.out hs); replace HOd := Aside0.mk (Kd.R_below HOd.out hs); have HOw := Aside0.mk (R_iv ho (below_size (by repeat (first | exact HB.out | apply below_alloc | apply pw_below_drewN | apply below_drew1))) hl); replace HB := Aside0.mk (below_step HB.out hs); clear ho; obtain ⟨w_A, w_c, e_⟩ := Kd.R_slice HOw.out; subst e_; clear hb hs; (try clear hl); have hcg1_0 : w20.cell? ⟨g1, 0, none⟩ = some (.int .i64 2) := (blk_cell BKg1.out 0).trans rfl; have hfg1_0 := blk_frozen BKg1.out 0; have hcg1_1 : w20.cell? ⟨g1, 1, none⟩ = some (.int .i64 1) := (blk_cell BKg1.out 1).trans rfl; have hfg1_1 := blk_frozen BKg1.out 1; have hcg1_2 : w20.cell? ⟨g1, 2, none⟩ = some (.int .i64 16) := (blk_cell BKg1.out 2).trans rfl; have hfg1_2 := blk_frozen BKg1.out 2; have hcg1_3 : w20.cell? ⟨g1, 3, none⟩ = some (.int .i64 8) := (blk_cell BKg1.out 3).trans rfl; have hfg1_3 := blk_frozen BKg1.out 3; have hcg1_4 : w20.cell? ⟨g1, 4, none⟩ = some (.slice m_A alB.length m_c) := (blk_cell BKg1.out 4).trans rfl; have hfg1_4 := blk_frozen BKg1.out 4; have hcg5_0 : w20.cell? ⟨g5, 0, none⟩ = some (.int .i64 2) := (blk_cell BKg5.out 0).trans rfl; have hfg5_0 := blk_frozen BKg5.out 0; have hcg5_1 : w20.cell? ⟨g5, 1, none⟩ = some (.int .i64 1) := (blk_cell BKg5.out 1).trans rfl; have hfg5_1 := blk_frozen BKg5.out 1; have hcg5_2 : w20.cell? ⟨g5, 2, none⟩ = some (.int .i64 16) := (blk_cell BKg5.out 2).trans rfl; have hfg5_2 := blk_frozen BKg5.out 2; have hcg5_3 : w20.cell? ⟨g5, 3, none⟩ = some (.int .i64 8) := (blk_cell BKg5.out 3).trans rfl; have hfg5_3 := blk_frozen BKg5.out 3; have hcg5_4 : w20.cell? ⟨g5, 4, none⟩ = some (.slice a_A alA.length a_c) := (blk_cell BKg5.out 4).trans rfl; have hfg5_4 := blk_frozen BKg5.out 4; clear tok15; have tok16 : True := trivial) | (have _ := tok16; (with_reducible refine gate_dst (N := 13) rfl ?_); refine box_event ?hg (N := 13) ?hd (cs := #[.int .i64 0, .int .i64 0, .int .i64 0, .int .i64 0, .slice none 0 0]) (t := 27) ?hr ?_; (case hd => rfl); (case hg => rfl); (case hr => first | (go_simp; done) | (go_simp; rfl)); intro g13 hg w21 hbox hb; have hs : Below w20.heap.size w20 w21 := below_step (by repeat (first | exact Below.refl _ _ | apply below_alloc | apply pw_below_drewN | apply below_drew1)) hb; have SZ21 := Aside0.mk (show w20.heap.size ≤ g13 ∧ g13 < w21.heap.size from ⟨by rw [hg]; exact (below_size (by repeat (first | exact Below.refl _ _ | apply below_alloc | apply pw_below_drewN | apply below_drew1))), blk_lt hbox⟩); (try clear hcg1_0 hfg1_0); (try clear hcg1_1 hfg1_1); (try clear hcg1_2 hfg1_2); (try clear hcg1_3 hfg1_3); (try clear hcg1_4 hfg1_4); (try clear hcg5_0 hfg5_0); (try clear hcg5_1 hfg5_1); (try clear hcg5_2 hfg5_2); (try clear hcg5_3 hfg5_3); (try clear hcg5_4 hfg5_4); replace HOm := Aside0.mk (Kd.R_below HOm.out hs); replace BKg1 := Aside0.mk (blk_below BKg1.out hs); replace HOx := Aside0.mk (Kd.R_below HOx.out hs); replace BKg3 := Aside0.mk (blk_below BKg3.out hs); replace HOy := Aside0.mk (Kd.R_below HOy.out hs); replace BKg4 := Aside0.mk (blk_below BKg4.out hs); replace HOa := Aside0.mk (Kd.R_below HOa.out hs); replace BKg5 := Aside0.mk (blk_below BKg5.out hs); replace HOr := Aside0.mk (Kd.R_below HOr.out hs); replace BKg43 := Aside0.mk (blk_below BKg43.out hs); replace HOb := Aside0.mk (Kd.R_below HOb.out hs); replace BKg9 := Aside0.mk (blk_below BKg9.out hs); replace HOd := Aside0.mk (Kd.R_below HOd.out hs); replace HOw := Aside0.mk (Kd.R_below HOw.out hs); replace HB := Aside0.mk (below_step HB.out hs); have hneg1_g13 : g1 ≠ g13 := (by have := SZ21.out; have := SZ1.out; have := SZ2.out; have := SZ3.out; have := SZ4.out; have := SZ5.out; have := SZ6.out; have := SZ7.out; have := SZ8.out; have := SZ9.out; have := SZ10.out; have := SZ11.out; have := SZ12.out; have := SZ13.out; have := SZ14.out; have := SZ15.out; have := SZ16.out; have := SZ17.out; have := SZ18.out; have := SZ19.out; have := SZ20.out; omega); have hneg13_g1 : g13 ≠ g1 := hneg1_g13.symm; have hneg3_g13 : g3 ≠ g13 := (by have := SZ21.out; have := SZ1.out; have := SZ2.out; have := SZ3.out; have := SZ4.out; have := SZ5.out; have := SZ6.out; have := SZ7.out; have := SZ8.out; have := SZ9.out; have := SZ10.out; have := SZ11.out; have := SZ12.out; have := SZ13.out; have := SZ14.out; have := SZ15.out; have := SZ16.out; have := SZ17.out; have := SZ18.out; have := SZ19.out; have := SZ20.out; omega); have hneg13_g3 : g13 ≠ g3 := hneg3_g13.symm; have hneg4_g13 : g4 ≠ g13 := (by have := SZ21.out; have := SZ1.out; have := SZ2.out; have := SZ3.out; have := SZ4.out; have := SZ5.out; have := SZ6.out; have := SZ7.out; have := SZ8.out; have := SZ9.out; have := SZ10.out; have := SZ11.out; have := SZ12.out; have := SZ13.out; have := SZ14.out; have := SZ15.out; have := SZ16.out; have := SZ17.out; have := SZ18.out; have := SZ19.out; have := SZ20.out; omega); have hneg13_g4 : g13 ≠ g4 := hneg4_g13.symm; have hneg5_g13 : g5 ≠ g13 := (by have := SZ21.out; have := SZ1.out; have := SZ2.out; have := SZ3.out; have := SZ4.out; have := SZ5.out; have := SZ6.out; have := SZ7.out; have := SZ8.out; have := SZ9.out; have := SZ10.out; have := SZ11.out; have := SZ12.out; have := SZ13.out; have := SZ14.out; have := SZ15.out; have := SZ16.out; have := SZ17.out; have := SZ18.out; have := SZ19.out; have := SZ20.out; omega); have hneg13_g5 : g13 ≠ g5 := hneg5_g13.symm; have hneg43_g13 : g43 ≠ g13 := (by have := SZ21.out; have := SZ1.out; have := SZ2.out; have := SZ3.out; have := SZ4.out; have := SZ5.out; have := SZ6.out; have := SZ7.out; have := SZ8.out; have := SZ9.out; have := SZ10.out; have := SZ11.out; have := SZ12.out; have := SZ13.out; have := SZ14.out; have := SZ15.out; have := SZ16.out; have := SZ17.out; have := SZ18.out; have := SZ19.out; have := SZ20.out; omega); have hneg13_g43 : g13 ≠ g43 := hneg43_g13.symm; have hneg9_g13 : g9 ≠ g13 := (by have := SZ21.out; have := SZ1.out; have := SZ2.out; have := SZ3.out; have := SZ4.out; have := SZ5.out; have := SZ6.out; have := SZ7.out; have := SZ8.out; have := SZ9.out; have := SZ10.out; have := SZ11.out; have := SZ12.out; have := SZ13.out; have := SZ14.out; have := SZ15.out; have := SZ16.out; have := SZ17.out; have := SZ18.out; have := SZ19.out; have := SZ20.out; omega); have hneg13_g9 : g13 ≠ g9 := hneg9_g13.symm; have BKg13 := Aside0.mk hbox; clear hb hbox hg hs; have hcg1_0 : w21.cell? ⟨g1, 0, none⟩ = some (.int .i64 2) := (blk_cell BKg1.out 0).trans rfl; have hfg1_0 := blk_frozen BKg1.out 0; have hcg1_1 : w21.cell? ⟨g1, 1, none⟩ = some (.int .i64 1) := (blk_cell BKg1.out 1).trans rfl; have hfg1_1 := blk_frozen BKg1.out 1; have hcg1_2 : w21.cell? ⟨g1, 2, none⟩ = some (.int .i64 16) := (blk_cell BKg1.out 2).trans rfl; have hfg1_2 := blk_frozen BKg1.out 2; have hcg1_3 : w21.cell? ⟨g1, 3, none⟩ = some (.int .i64 8) := (blk_cell BKg1.out 3).trans rfl; have hfg1_3 := blk_frozen BKg1.out 3; have hcg1_4 : w21.cell? ⟨g1, 4, none⟩ = some (.slice m_A alB.length m_c) := (blk_cell BKg1.out 4).trans rfl; have hfg1_4 := blk_frozen BKg1.out 4; have hcg5_0 : w21.cell? ⟨g5, 0, none⟩ = some (.int .i64 2) := (blk_cell BKg5.out 0).trans rfl; have hfg5_0 := blk_frozen BKg5.out 0; have hcg5_1 : w21.cell? ⟨g5, 1, none⟩ = some (.int .i64 1) := (blk_cell BKg5.out 1).trans rfl; have hfg5_1 := blk_frozen BKg5.out 1; have hcg5_2 : w21.cell? ⟨g5, 2, none⟩ = some (.int .i64 16) := (blk_cell BKg5.out 2).trans rfl; have hfg5_2 := blk_frozen BKg5.out 2; have hcg5_3 : w21.cell? ⟨g5, 3, none⟩ = some (.int .i64 8) := (blk_cell BKg5.out 3).trans rfl; have hfg5_3 := blk_frozen BKg5.out 3; have hcg5_4 : w21.cell? ⟨g5, 4, none⟩ = some (.slice a_A alA.length a_c) := (blk_cell BKg5.out 4).trans rfl; have hfg5_4 := blk_frozen BKg5.out 4; have hcg13_0 : w21.cell? ⟨g13, 0, none⟩ = some (.int .i64 0) := (blk_cell BKg13.out 0).trans rfl; have hfg13_0 := blk_frozen BKg13.out 0; have hcg13_1 : w21.cell? ⟨g13, 1, none⟩ = some (.int .i64 0) := (blk_cell BKg13.out 1).trans rfl; have hfg13_1 := blk_frozen BKg13.out 1; have hcg13_2 : w21.cell? ⟨g13, 2, none⟩ = some (.int .i64 0) := (blk_cell BKg13.out 2).trans rfl; have hfg13_2 := blk_frozen BKg13.out 2; have hcg13_3 : w21.cell? ⟨g13, 3, none⟩ = some (.int .i64 0) := (blk_cell BKg13.out 3).trans rfl; have hfg13_3 := blk_frozen BKg13.out 3; have hcg13_4 : w21.cell? ⟨g13, 4, none⟩ = some (.slice none 0 0) := (blk_cell BKg13.out 4).trans rfl; have hfg13_4 := blk_frozen BKg13.out 4; clear tok16))
  (try clear hcg1_0 hfg1_0)
  (try clear hcg1_1 hfg1_1)
  (try clear hcg1_2 hfg1_2)
  (try clear hcg1_3 hfg1_3)
  (try clear hcg1_4 hfg1_4)
  (try clear hcg5_0 hfg5_0)
  (try clear hcg5_1 hfg5_1)
  (try clear hcg5_2 hfg5_2)
  (try clear hcg5_3 hfg5_3)
  (try clear hcg5_4 hfg5_4)
  (try clear hcg13_0 hfg13_0)
  (try clear hcg13_1 hfg13_1)
  (try clear hcg13_2 hfg13_2)
  (try clear hcg13_3 hfg13_3)
  (try clear hcg13_4 hfg13_4)
  replace HOm := Aside0.mk (Kd.R_far HOm.out (p := ⟨g13, 0, none⟩) (Iv_ne (g := g13) (by have := SZ1.out; have := SZ2.out; have := SZ3.out; have := SZ4.out; have := SZ5.out; have := SZ6.out; have := SZ7.out; have := SZ8.out; have := SZ9.out; have := SZ10.out; have := SZ11.out; have := SZ12.out; have := SZ13.out; have := SZ14.out; have := SZ15.out; have := SZ16.out; have := SZ17.out; have := SZ18.out; have := SZ19.out; have := SZ20.out; have := SZ21.out; omega)) (.int .i64 2))
  replace BKg1 := Aside0.mk (blk_far BKg1.out (p := ⟨g13, 0, none⟩) (by show _ ≠ _; have := SZ1.out; have := SZ2.out; have := SZ3.out; have := SZ4.out; have := SZ5.out; have := SZ6.out; have := SZ7.out; have := SZ8.out; have := SZ9.out; have := SZ10.out; have := SZ11.out; have := SZ12.out; have := SZ13.out; have := SZ14.out; have := SZ15.out; have := SZ16.out; have := SZ17.out; have := SZ18.out; have := SZ19.out; have := SZ20.out; have := SZ21.out; omega) (.int .i64 2))
  replace HOx := Aside0.mk (Kd.R_far HOx.out (p := ⟨g13, 0, none⟩) (Iv_ne (g := g13) (by have := SZ1.out; have := SZ2.out; have := SZ3.out; have := SZ4.out; have := SZ5.out; have := SZ6.out; have := SZ7.out; have := SZ8.out; have := SZ9.out; have := SZ10.out; have := SZ11.out; have := SZ12.out; have := SZ13.out; have := SZ14.out; have := SZ15.out; have := SZ16.out; have := SZ17.out; have := SZ18.out; have := SZ19.out; have := SZ20.out; have := SZ21.out; omega)) (.int .i64 2))
  replace BKg3 := Aside0.mk (blk_far BKg3.out (p := ⟨g13, 0, none⟩) (by show _ ≠ _; have := SZ1.out; have := SZ2.out; have := SZ3.out; have := SZ4.out; have := SZ5.out; have := SZ6.out; have := SZ7.out; have := SZ8.out; have := SZ9.out; have := SZ10.out; have := SZ11.out; have := SZ12.out; have := SZ13.out; have := SZ14.out; have := SZ15.out; have := SZ16.out; have := SZ17.out; have := SZ18.out; have := SZ19.out; have := SZ20.out; have := SZ21.out; omega) (.int .i64 2))
  replace HOy := Aside0.mk (Kd.R_far HOy.out (p := ⟨g13, 0, none⟩) (Iv_ne (g := g13) (by have := SZ1.out; have := SZ2.out; have := SZ3.out; have := SZ4.out; have := SZ5.out; have := SZ6.out; have := SZ7.out; have := SZ8.out; have := SZ9.out; have := SZ10.out; have := SZ11.out; have := SZ12.out; have := SZ13.out; have := SZ14.out; have := SZ15.out; have := SZ16.out; have := SZ17.out; have := SZ18.out; have := SZ19.out; have := SZ20.out; have := SZ21.out; omega)) (.int .i64 2))
  replace BKg4 := Aside0.mk (blk_far BKg4.out (p := ⟨g13, 0, none⟩) (by show _ ≠ _; have := SZ1.out; have := SZ2.out; have := SZ3.out; have := SZ4.out; have := SZ5.out; have := SZ6.out; have := SZ7.out; have := SZ8.out; have := SZ9.out; have := SZ10.out; have := SZ11.out; have := SZ12.out; have := SZ13.out; have := SZ14.out; have := SZ15.out; have := SZ16.out; have := SZ17.out; have := SZ18.out; have := SZ19.out; have := SZ20.out; have := SZ21.out; omega) (.int .i64 2))
  replace HOa := Aside0.mk (Kd.R_far HOa.out (p := ⟨g13, 0, none⟩) (Iv_ne (g := g13) (by have := SZ1.out; have := SZ2.out; have := SZ3.out; have := SZ4.out; have := SZ5.out; have := SZ6.out; have := SZ7.out; have := SZ8.out; have := SZ9.out; have := SZ10.out; have := SZ11.out; have := SZ12.out; have := SZ13.out; have := SZ14.out; have := SZ15.out; have := SZ16.out; have := SZ17.out; have := SZ18.out; have := SZ19.out; have := SZ20.out; have := SZ21.out; omega)) (.int .i64 2))
  replace BKg5 := Aside0.mk (blk_far BKg5.out (p := ⟨g13, 0, none⟩) (by show _ ≠ _; have := SZ1.out; have := SZ2.out; have := SZ3.out; have := SZ4.out; have := SZ5.out; have := SZ6.out; have := SZ7.out; have := SZ8.out; have := SZ9.out; have := SZ10.out; have := SZ11.out; have := SZ12.out; have := SZ13.out; have := SZ14.out; have := SZ15.out; have := SZ16.out; have := SZ17.out; have := SZ18.out; have := SZ19.out; have := SZ20.out; have := SZ21.out; omega) (.int .i64 2))
  replace HOr := Aside0.mk (Kd.R_far HOr.out (p := ⟨g13, 0, none⟩) (Iv_ne (g := g13) (by have := SZ1.out; have := SZ2.out; have := SZ3.out; have := SZ4.out; have := SZ5.out; have := SZ6.out; have := SZ7.out; have := SZ8.out; have := SZ9.out; have := SZ10.out; have := SZ11.out; have := SZ12.out; have := SZ13.out; have := SZ14.out; have := SZ15.out; have := SZ16.out; have := SZ17.out; have := SZ18.out; have := SZ19.out; have := SZ20.out; have := SZ21.out; omega)) (.int .i64 2))
  replace BKg43 := Aside0.mk (blk_far BKg43.out (p := ⟨g13, 0, none⟩) (by show _ ≠ _; have := SZ1.out; have := SZ2.out; have := SZ3.out; have := SZ4.out; have := SZ5.out; have := SZ6.out; have := SZ7.out; have := SZ8.out; have := SZ9.out; have := SZ10.out; have := SZ11.out; have := SZ12.out; have := SZ13.out; have := SZ14.out; have := SZ15.out; have := SZ16.out; have := SZ17.out; have := SZ18.out; have := SZ19.out; have := SZ20.out; have := SZ21.out; omega) (.int .i64 2))
  replace HOb := Aside0.mk (Kd.R_far HOb.out (p := ⟨g13, 0, none⟩) (Iv_ne (g := g13) (by have := SZ1.out; have := SZ2.out; have := SZ3.out; have := SZ4.out; have := SZ5.out; have := SZ6.out; have := SZ7.out; have := SZ8.out; have := SZ9.out; have := SZ10.out; have := SZ11.out; have := SZ12.out; have := SZ13.out; have := SZ14.out; have := SZ15.out; have := SZ16.out; have := SZ17.out; have := SZ18.out; have := SZ19.out; have := SZ20.out; have := SZ21.out; omega)) (.int .i64 2))
  replace BKg9 := Aside0.mk (blk_far BKg9.out (p := ⟨g13, 0, none⟩) (by show _ ≠ _; have := SZ1.out; have := SZ2.out; have := SZ3.out; have := SZ4.out; have := SZ5.out; have := SZ6.out; have := SZ7.out; have := SZ8.out; have := SZ9.out; have := SZ10.out; have := SZ11.out; have := SZ12.out; have := SZ13.out; have := SZ14.out; have := SZ15.out; have := SZ16.out; have := SZ17.out; have := SZ18.out; have := SZ19.out; have := SZ20.out; have := SZ21.out; omega) (.int .i64 2))
  replace HOd := Aside0.mk (Kd.R_far HOd.out (p := ⟨g13, 0, none⟩) (Iv_ne (g := g13) (by have := SZ1.out; have := SZ2.out; have := SZ3.out; have := SZ4.out; have := SZ5.out; have := SZ6.out; have := SZ7.out; have := SZ8.out; have := SZ9.out; have := SZ10.out; have := SZ11.out; have := SZ12.out; have := SZ13.out; have := SZ14.out; have := SZ15.out; have := SZ16.out; have := SZ17.out; have := SZ18.out; have := SZ19.out; have := SZ20.out; have := SZ21.out; omega)) (.int .i64 2))
  replace HOw := Aside0.mk (Kd.R_far HOw.out (p := ⟨g13, 0, none⟩) (Iv_ne (g := g13) (by have := SZ1.out; have := SZ2.out; have := SZ3.out; have := SZ4.out; have := SZ5.out; have := SZ6.out; have := SZ7.out; have := SZ8.out; have := SZ9.out; have := SZ10.out; have := SZ11.out; have := SZ12.out; have := SZ13.out; have := SZ14.out; have := SZ15.out; have := SZ16.out; have := SZ17.out; have := SZ18.out; have := SZ19.out; have := SZ20.out; have := SZ21.out; omega)) (.int .i64 2))
  replace BKg13 := Aside0.mk (blk_put BKg13.out 0 (.int .i64 2) rfl)
  replace HB := Aside0.mk (below_set HB.out (by have := SZ1.out; have := SZ2.out; have := SZ3.out; have := SZ4.out; have := SZ5.out; have := SZ6.out; have := SZ7.out; have := SZ8.out; have := SZ9.out; have := SZ10.out; have := SZ11.out; have := SZ12.out; have := SZ13.out; have := SZ14.out; have := SZ15.out; have := SZ16.out; have := SZ17.out; have := SZ18.out; have := SZ19.out; have := SZ20.out; have := SZ21.out; omega : w.heap.size ≤ g13) (j := 0) (v := .int .i64 2))
  replace HOm := Aside0.mk (Kd.R_far HOm.out (p := ⟨g13, 1, none⟩) (Iv_ne (g := g13) (by have := SZ1.out; have := SZ2.out; have := SZ3.out; have := SZ4.out; have := SZ5.out; have := SZ6.out; have := SZ7.out; have := SZ8.out; have := SZ9.out; have := SZ10.out; have := SZ11.out; have := SZ12.out; have := SZ13.out; have := SZ14.out; have := SZ15.out; have := SZ16.out; have := SZ17.out; have := SZ18.out; have := SZ19.out; have := SZ20.out; have := SZ21.out; omega)) (.int .i64 1))
  replace BKg1 := Aside0.mk (blk_far BKg1.out (p := ⟨g13, 1, none⟩) (by show _ ≠ _; have := SZ1.out; have := SZ2.out; have := SZ3.out; have := SZ4.out; have := SZ5.out; have := SZ6.out; have := SZ7.out; have := SZ8.out; have := SZ9.out; have := SZ10.out; have := SZ11.out; have := SZ12.out; have := SZ13.out; have := SZ14.out; have := SZ15.out; have := SZ16.out; have := SZ17.out; have := SZ18.out; have := SZ19.out; have := SZ20.out; have := SZ21.out; omega) (.int .i64 1))
  replace HOx := Aside0.mk (Kd.R_far HOx.out (p := ⟨g13, 1, none⟩) (Iv_ne (g := g13) (by have := SZ1.out; have := SZ2.out; have := SZ3.out; have := SZ4.out; have := SZ5.out; have := SZ6.out; have := SZ7.out; have := SZ8.out; have := SZ9.out; have := SZ10.out; have := SZ11.out; have := SZ12.out; have := SZ13.out; have := SZ14.out; have := SZ15.out; have := SZ16.out; have := SZ17.out; have := SZ18.out; have := SZ19.out; have := SZ20.out; have := SZ21.out; omega)) (.int .i64 1))
  replace BKg3 := Aside0.mk (blk_far BKg3.out (p := ⟨g13, 1, none⟩) (by show _ ≠ _; have := SZ1.out; have := SZ2.out; have := SZ3.out; have := SZ4.out; have := SZ5.out; have := SZ6.out; have := SZ7.out; have := SZ8.out; have := SZ9.out; have := SZ10.out; have := SZ11.out; have := SZ12.out; have := SZ13.out; have := SZ14.out; have := SZ15.out; have := SZ16.out; have := SZ17.out; have := SZ18.out; have := SZ19.out; have := SZ20.out; have := SZ21.out; omega) (.int .i64 1))
  replace HOy := Aside0.mk (Kd.R_far HOy.out (p := ⟨g13, 1, none⟩) (Iv_ne (g := g13) (by have := SZ1.out; have := SZ2.out; have := SZ3.out; have := SZ4.out; have := SZ5.out; have := SZ6.out; have := SZ7.out; have := SZ8.out; have := SZ9.out; have := SZ10.out; have := SZ11.out; have := SZ12.out; have := SZ13.out; have := SZ14.out; have := SZ15.out; have := SZ16.out; have := SZ17.out; have := SZ18.out; have := SZ19.out; have := SZ20.out; have := SZ21.out; omega)) (.int .i64 1))
  replace BKg4 := Aside0.mk (blk_far BKg4.out (p := ⟨g13, 1, none⟩) (by show _ ≠ _; have := SZ1.out; have := SZ2.out; have := SZ3.out; have := SZ4.out; have := SZ5.out; have := SZ6.out; have := SZ7.out; have := SZ8.out; have := SZ9.out; have := SZ10.out; have := SZ11.out; have := SZ12.out; have := SZ13.out; have := SZ14.out; have := SZ15.out; have := SZ16.out; have := SZ17.out; have := SZ18.out; have := SZ19.out; have := SZ20.out; have := SZ21.out; omega) (.int .i64 1))
  replace HOa := Aside0.mk (Kd.R_far HOa.out (p := ⟨g13, 1, none⟩) (Iv_ne (g := g13) (by have := SZ1.out; have := SZ2.out; have := SZ3.out; have := SZ4.out; have := SZ5.out; have := SZ6.out; have := SZ7.out; have := SZ8.out; have := SZ9.out; have := SZ10.out; have := SZ11.out; have := SZ12.out; have := SZ13.out; have := SZ14.out; have := SZ15.out; have := SZ16.out; have := SZ17.out; have := SZ18.out; have := SZ19.out; have := SZ20.out; have := SZ21.out; omega)) (.int .i64 1))
  replace BKg5 := Aside0.mk (blk_far BKg5.out (p := ⟨g13, 1, none⟩) (by show _ ≠ _; have := SZ1.out; have := SZ2.out; have := SZ3.out; have := SZ4.out; have := SZ5.out; have := SZ6.out; have := SZ7.out; have := SZ8.out; have := SZ9.out; have := SZ10.out; have := SZ11.out; have := SZ12.out; have := SZ13.out; have := SZ14.out; have := SZ15.out; have := SZ16.out; have := SZ17.out; have := SZ18.out; have := SZ19.out; have := SZ20.out; have := SZ21.out; omega) (.int .i64 1))
  replace HOr := Aside0.mk (Kd.R_far HOr.out (p := ⟨g13, 1, none⟩) (Iv_ne (g := g13) (by have := SZ1.out; have := SZ2.out; have := SZ3.out; have := SZ4.out; have := SZ5.out; have := SZ6.out; have := SZ7.out; have := SZ8.out; have := SZ9.out; have := SZ10.out; have := SZ11.out; have := SZ12.out; have := SZ13.out; have := SZ14.out; have := SZ15.out; have := SZ16.out; have := SZ17.out; have := SZ18.out; have := SZ19.out; have := SZ20.out; have := SZ21.out; omega)) (.int .i64 1))
  replace BKg43 := Aside0.mk (blk_far BKg43.out (p := ⟨g13, 1, none⟩) (by show _ ≠ _; have := SZ1.out; have := SZ2.out; have := SZ3.out; have := SZ4.out; have := SZ5.out; have := SZ6.out; have := SZ7.out; have := SZ8.out; have := SZ9.out; have := SZ10.out; have := SZ11.out; have := SZ12.out; have := SZ13.out; have := SZ14.out; have := SZ15.out; have := SZ16.out; have := SZ17.out; have := SZ18.out; have := SZ19.out; have := SZ20.out; have := SZ21.out; omega) (.int .i64 1))
  replace HOb := Aside0.mk (Kd.R_far HOb.out (p := ⟨g13, 1, none⟩) (Iv_ne (g := g13) (by have := SZ1.out; have := SZ2.out; have := SZ3.out; have := SZ4.out; have := SZ5.out; have := SZ6.out; have := SZ7.out; have := SZ8.out; have := SZ9.out; have := SZ10.out; have := SZ11.out; have := SZ12.out; have := SZ13.out; have := SZ14.out; have := SZ15.out; have := SZ16.out; have := SZ17.out; have := SZ18.out; have := SZ19.out; have := SZ20.out; have := SZ21.out; omega)) (.int .i64 1))
  replace BKg9 := Aside0.mk (blk_far BKg9.out (p := ⟨g13, 1, none⟩) (by show _ ≠ _; have := SZ1.out; have := SZ2.out; have := SZ3.out; have := SZ4.out; have := SZ5.out; have := SZ6.out; have := SZ7.out; have := SZ8.out; have := SZ9.out; have := SZ10.out; have := SZ11.out; have := SZ12.out; have := SZ13.out; have := SZ14.out; have := SZ15.out; have := SZ16.out; have := SZ17.out; have := SZ18.out; have := SZ19.out; have := SZ20.out; have := SZ21.out; omega) (.int .i64 1))
  replace HOd := Aside0.mk (Kd.R_far HOd.out (p := ⟨g13, 1, none⟩) (Iv_ne (g := g13) (by have := SZ1.out; have := SZ2.out; have := SZ3.out; have := SZ4.out; have := SZ5.out; have := SZ6.out; have := SZ7.out; have := SZ8.out; have := SZ9.out; have := SZ10.out; have := SZ11.out; have := SZ12.out; have := SZ13.out; have := SZ14.out; have := SZ15.out; have := SZ16.out; have := SZ17.out; have := SZ18.out; have := SZ19.out; have := SZ20.out; have := SZ21.out; omega)) (.int .i64 1))
  replace HOw := Aside0.mk (Kd.R_far HOw.out (p := ⟨g13, 1, none⟩) (Iv_ne (g := g13) (by have := SZ1.out; have := SZ2.out; have := SZ3.out; have := SZ4.out; have := SZ5.out; have := SZ6.out; have := SZ7.out; have := SZ8.out; have := SZ9.out; have := SZ10.out; have := SZ11.out; have := SZ12.out; have := SZ13.out; have := SZ14.out; have := SZ15.out; have := SZ16.out; have := SZ17.out; have := SZ18.out; have := SZ19.out; have := SZ20.out; have := SZ21.out; omega)) (.int .i64 1))
  replace BKg13 := Aside0.mk (blk_put BKg13.out 1 (.int .i64 1) rfl)
  replace HB := Aside0.mk (below_set HB.out (by have := SZ1.out; have := SZ2.out; have := SZ3.out; have := SZ4.out; have := SZ5.out; have := SZ6.out; have := SZ7.out; have := SZ8.out; have := SZ9.out; have := SZ10.out; have := SZ11.out; have := SZ12.out; have := SZ13.out; have := SZ14.out; have := SZ15.out; have := SZ16.out; have := SZ17.out; have := SZ18.out; have := SZ19.out; have := SZ20.out; have := SZ21.out; omega : w.heap.size ≤ g13) (j := 1) (v := .int .i64 1))
  replace HOm := Aside0.mk (Kd.R_far HOm.out (p := ⟨g13, 2, none⟩) (Iv_ne (g := g13) (by have := SZ1.out; have := SZ2.out; have := SZ3.out; have := SZ4.out; have := SZ5.out; have := SZ6.out; have := SZ7.out; have := SZ8.out; have := SZ9.out; have := SZ10.out; have := SZ11.out; have := SZ12.out; have := SZ13.out; have := SZ14.out; have := SZ15.out; have := SZ16.out; have := SZ17.out; have := SZ18.out; have := SZ19.out; have := SZ20.out; have := SZ21.out; omega)) (.int .i64 16))
  replace BKg1 := Aside0.mk (blk_far BKg1.out (p := ⟨g13, 2, none⟩) (by show _ ≠ _; have := SZ1.out; have := SZ2.out; have := SZ3.out; have := SZ4.out; have := SZ5.out; have := SZ6.out; have := SZ7.out; have := SZ8.out; have := SZ9.out; have := SZ10.out; have := SZ11.out; have := SZ12.out; have := SZ13.out; have := SZ14.out; have := SZ15.out; have := SZ16.out; have := SZ17.out; have := SZ18.out; have := SZ19.out; have := SZ20.out; have := SZ21.out; omega) (.int .i64 16))
  replace HOx := Aside0.mk (Kd.R_far HOx.out (p := ⟨g13, 2, none⟩) (Iv_ne (g := g13) (by have := SZ1.out; have := SZ2.out; have := SZ3.out; have := SZ4.out; have := SZ5.out; have := SZ6.out; have := SZ7.out; have := SZ8.out; have := SZ9.out; have := SZ10.out; have := SZ11.out; have := SZ12.out; have := SZ13.out; have := SZ14.out; have := SZ15.out; have := SZ16.out; have := SZ17.out; have := SZ18.out; have := SZ19.out; have := SZ20.out; have := SZ21.out; omega)) (.int .i64 16))
  replace BKg3 := Aside0.mk (blk_far BKg3.out (p := ⟨g13, 2, none⟩) (by show _ ≠ _; have := SZ1.out; have := SZ2.out; have := SZ3.out; have := SZ4.out; have := SZ5.out; have := SZ6.out; have := SZ7.out; have := SZ8.out; have := SZ9.out; have := SZ10.out; have := SZ11.out; have := SZ12.out; have := SZ13.out; have := SZ14.out; have := SZ15.out; have := SZ16.out; have := SZ17.out; have := SZ18.out; have := SZ19.out; have := SZ20.out; have := SZ21.out; omega) (.int .i64 16))
  replace HOy := Aside0.mk (Kd.R_far HOy.out (p := ⟨g13, 2, none⟩) (Iv_ne (g := g13) (by have := SZ1.out; have := SZ2.out; have := SZ3.out; have := SZ4.out; have := SZ5.out; have := SZ6.out; have := SZ7.out; have := SZ8.out; have := SZ9.out; have := SZ10.out; have := SZ11.out; have := SZ12.out; have := SZ13.out; have := SZ14.out; have := SZ15.out; have := SZ16.out; have := SZ17.out; have := SZ18.out; have := SZ19.out; have := SZ20.out; have := SZ21.out; omega)) (.int .i64 16))
  replace BKg4 := Aside0.mk (blk_far BKg4.out (p := ⟨g13, 2, none⟩) (by show _ ≠ _; have := SZ1.out; have := SZ2.out; have := SZ3.out; have := SZ4.out; have := SZ5.out; have := SZ6.out; have := SZ7.out; have := SZ8.out; have := SZ9.out; have := SZ10.out; have := SZ11.out; have := SZ12.out; have := SZ13.out; have := SZ14.out; have := SZ15.out; have := SZ16.out; have := SZ17.out; have := SZ18.out; have := SZ19.out; have := SZ20.out; have := SZ21.out; omega) (.int .i64 16))
  replace HOa := Aside0.mk (Kd.R_far HOa.out (p := ⟨g13, 2, none⟩) (Iv_ne (g := g13) (by have := SZ1.out; have := SZ2.out; have := SZ3.out; have := SZ4.out; have := SZ5.out; have := SZ6.out; have := SZ7.out; have := SZ8.out; have := SZ9.out; have := SZ10.out; have := SZ11.out; have := SZ12.out; have := SZ13.out; have := SZ14.out; have := SZ15.out; have := SZ16.out; have := SZ17.out; have := SZ18.out; have := SZ19.out; have := SZ20.out; have := SZ21.out; omega)) (.int .i64 16))
  replace BKg5 := Aside0.mk (blk_far BKg5.out (p := ⟨g13, 2, none⟩) (by show _ ≠ _; have := SZ1.out; have := SZ2.out; have := SZ3.out; have := SZ4.out; have := SZ5.out; have := SZ6.out; have := SZ7.out; have := SZ8.out; have := SZ9.out; have := SZ10.out; have := SZ11.out; have := SZ12.out; have := SZ13.out; have := SZ14.out; have := SZ15.out; have := SZ16.out; have := SZ17.out; have := SZ18.out; have := SZ19.out; have := SZ20.out; have := SZ21.out; omega) (.int .i64 16))
  replace HOr := Aside0.mk (Kd.R_far HOr.out (p := ⟨g13, 2, none⟩) (Iv_ne (g := g13) (by have := SZ1.out; have := SZ2.out; have := SZ3.out; have := SZ4.out; have := SZ5.out; have := SZ6.out; have := SZ7.out; have := SZ8.out; have := SZ9.out; have := SZ10.out; have := SZ11.out; have := SZ12.out; have := SZ13.out; have := SZ14.out; have := SZ15.out; have := SZ16.out; have := SZ17.out; have := SZ18.out; have := SZ19.out; have := SZ20.out; have := SZ21.out; omega)) (.int .i64 16))
  replace BKg43 := Aside0.mk (blk_far BKg43.out (p := ⟨g13, 2, none⟩) (by show _ ≠ _; have := SZ1.out; have := SZ2.out; have := SZ3.out; have := SZ4.out; have := SZ5.out; have := SZ6.out; have := SZ7.out; have := SZ8.out; have := SZ9.out; have := SZ10.out; have := SZ11.out; have := SZ12.out; have := SZ13.out; have := SZ14.out; have := SZ15.out; have := SZ16.out; have := SZ17.out; have := SZ18.out; have := SZ19.out; have := SZ20.out; have := SZ21.out; omega) (.int .i64 16))
  replace HOb := Aside0.mk (Kd.R_far HOb.out (p := ⟨g13, 2, none⟩) (Iv_ne (g := g13) (by have := SZ1.out; have := SZ2.out; have := SZ3.out; have := SZ4.out; have := SZ5.out; have := SZ6.out; have := SZ7.out; have := SZ8.out; have := SZ9.out; have := SZ10.out; have := SZ11.out; have := SZ12.out; have := SZ13.out; have := SZ14.out; have := SZ15.out; have := SZ16.out; have := SZ17.out; have := SZ18.out; have := SZ19.out; have := SZ20.out; have := SZ21.out; omega)) (.int .i64 16))
  replace BKg9 := Aside0.mk (blk_far BKg9.out (p := ⟨g13, 2, none⟩) (by show _ ≠ _; have := SZ1.out; have := SZ2.out; have := SZ3.out; have := SZ4.out; have := SZ5.out; have := SZ6.out; have := SZ7.out; have := SZ8.out; have := SZ9.out; have := SZ10.out; have := SZ11.out; have := SZ12.out; have := SZ13.out; have := SZ14.out; have := SZ15.out; have := SZ16.out; have := SZ17.out; have := SZ18.out; have := SZ19.out; have := SZ20.out; have := SZ21.out; omega) (.int .i64 16))
  replace HOd := Aside0.mk (Kd.R_far HOd.out (p := ⟨g13, 2, none⟩) (Iv_ne (g := g13) (by have := SZ1.out; have := SZ2.out; have := SZ3.out; have := SZ4.out; have := SZ5.out; have := SZ6.out; have := SZ7.out; have := SZ8.out; have := SZ9.out; have := SZ10.out; have := SZ11.out; have := SZ12.out; have := SZ13.out; have := SZ14.out; have := SZ15.out; have := SZ16.out; have := SZ17.out; have := SZ18.out; have := SZ19.out; have := SZ20.out; have := SZ21.out; omega)) (.int .i64 16))
  replace HOw := Aside0.mk (Kd.R_far HOw.out (p := ⟨g13, 2, none⟩) (Iv_ne (g := g13) (by have := SZ1.out; have := SZ2.out; have := SZ3.out; have := SZ4.out; have := SZ5.out; have := SZ6.out; have := SZ7.out; have := SZ8.out; have := SZ9.out; have := SZ10.out; have := SZ11.out; have := SZ12.out; have := SZ13.out; have := SZ14.out; have := SZ15.out; have := SZ16.out; have := SZ17.out; have := SZ18.out; have := SZ19.out; have := SZ20.out; have := SZ21.out; omega)) (.int .i64 16))
  replace BKg13 := Aside0.mk (blk_put BKg13.out 2 (.int .i64 16) rfl)
  replace HB := Aside0.mk (below_set HB.out (by have := SZ1.out; have := SZ2.out; have := SZ3.out; have := SZ4.out; have := SZ5.out; have := SZ6.out; have := SZ7.out; have := SZ8.out; have := SZ9.out; have := SZ10.out; have := SZ11.out; have := SZ12.out; have := SZ13.out; have := SZ14.out; have := SZ15.out; have := SZ16.out; have := SZ17.out; have := SZ18.out; have := SZ19.out; have := SZ20.out; have := SZ21.out; omega : w.heap.size ≤ g13) (j := 2) (v := .int .i64 16))
  replace HOm := Aside0.mk (Kd.R_far HOm.out (p := ⟨g13, 3, none⟩) (Iv_ne (g := g13) (by have := SZ1.out; have := SZ2.out; have := SZ3.out; have := SZ4.out; have := SZ5.out; have := SZ6.out; have := SZ7.out; have := SZ8.out; have := SZ9.out; have := SZ10.out; have := SZ11.out; have := SZ12.out; have := SZ13.out; have := SZ14.out; have := SZ15.out; have := SZ16.out; have := SZ17.out; have := SZ18.out; have := SZ19.out; have := SZ20.out; have := SZ21.out; omega)) (.int .i64 8))
  replace BKg1 := Aside0.mk (blk_far BKg1.out (p := ⟨g13, 3, none⟩) (by show _ ≠ _; have := SZ1.out; have := SZ2.out; have := SZ3.out; have := SZ4.out; have := SZ5.out; have := SZ6.out; have := SZ7.out; have := SZ8.out; have := SZ9.out; have := SZ10.out; have := SZ11.out; have := SZ12.out; have := SZ13.out; have := SZ14.out; have := SZ15.out; have := SZ16.out; have := SZ17.out; have := SZ18.out; have := SZ19.out; have := SZ20.out; have := SZ21.out; omega) (.int .i64 8))
  replace HOx := Aside0.mk (Kd.R_far HOx.out (p := ⟨g13, 3, none⟩) (Iv_ne (g := g13) (by have := SZ1.out; have := SZ2.out; have := SZ3.out; have := SZ4.out; have := SZ5.out; have := SZ6.out; have := SZ7.out; have := SZ8.out; have := SZ9.out; have := SZ10.out; have := SZ11.out; have := SZ12.out; have := SZ13.out; have := SZ14.out; have := SZ15.out; have := SZ16.out; have := SZ17.out; have := SZ18.out; have := SZ19.out; have := SZ20.out; have := SZ21.out; omega)) (.int .i64 8))
  replace BKg3 := Aside0.mk (blk_far BKg3.out (p := ⟨g13, 3, none⟩) (by show _ ≠ _; have := SZ1.out; have := SZ2.out; have := SZ3.out; have := SZ4.out; have := SZ5.out; have := SZ6.out; have := SZ7.out; have := SZ8.out; have := SZ9.out; have := SZ10.out; have := SZ11.out; have := SZ12.out; have := SZ13.out; have := SZ14.out; have := SZ15.out; have := SZ16.out; have := SZ17.out; have := SZ18.out; have := SZ19.out; have := SZ20.out; have := SZ21.out; omega) (.int .i64 8))
  replace HOy := Aside0.mk (Kd.R_far HOy.out (p := ⟨g13, 3, none⟩) (Iv_ne (g := g13) (by have := SZ1.out; have := SZ2.out; have := SZ3.out; have := SZ4.out; have := SZ5.out; have := SZ6.out; have := SZ7.out; have := SZ8.out; have := SZ9.out; have := SZ10.out; have := SZ11.out; have := SZ12.out; have := SZ13.out; have := SZ14.out; have := SZ15.out; have := SZ16.out; have := SZ17.out; have := SZ18.out; have := SZ19.out; have := SZ20.out; have := SZ21.out; omega)) (.int .i64 8))
  replace BKg4 := Aside0.mk (blk_far BKg4.out (p := ⟨g13, 3, none⟩) (by show _ ≠ _; have := SZ1.out; have := SZ2.out; have := SZ3.out; have := SZ4.out; have := SZ5.out; have := SZ6.out; have := SZ7.out; have := SZ8.out; have := SZ9.out; have := SZ10.out; have := SZ11.out; have := SZ12.out; have := SZ13.out; have := SZ14.out; have := SZ15.out; have := SZ16.out; have := SZ17.out; have := SZ18.out; have := SZ19.out; have := SZ20.out; have := SZ21.out; omega) (.int .i64 8))
  replace HOa := Aside0.mk (Kd.R_far HOa.out (p := ⟨g13, 3, none⟩) (Iv_ne (g := g13) (by have := SZ1.out; have := SZ2.out; have := SZ3.out; have := SZ4.out; have := SZ5.out; have := SZ6.out; have := SZ7.out; have := SZ8.out; have := SZ9.out; have := SZ10.out; have := SZ11.out; have := SZ12.out; have := SZ13.out; have := SZ14.out; have := SZ15.out; have := SZ16.out; have := SZ17.out; have := SZ18.out; have := SZ19.out; have := SZ20.out; have := SZ21.out; omega)) (.int .i64 8))
  replace BKg5 := Aside0.mk (blk_far BKg5.out (p := ⟨g13, 3, none⟩) (by show _ ≠ _; have := SZ1.out; have := SZ2.out; have := SZ3.out; have := SZ4.out; have := SZ5.out; have := SZ6.out; have := SZ7.out; have := SZ8.out; have := SZ9.out; have := SZ10.out; have := SZ11.out; have := SZ12.out; have := SZ13.out; have := SZ14.out; have := SZ15.out; have := SZ16.out; have := SZ17.out; have := SZ18.out; have := SZ19.out; have := SZ20.out; have := SZ21.out; omega) (.int .i64 8))
  replace HOr := Aside0.mk (Kd.R_far HOr.out (p := ⟨g13, 3, none⟩) (Iv_ne (g := g13) (by have := SZ1.out; have := SZ2.out; have := SZ3.out; have := SZ4.out; have := SZ5.out; have := SZ6.out; have := SZ7.out; have := SZ8.out; have := SZ9.out; have := SZ10.out; have := SZ11.out; have := SZ12.out; have := SZ13.out; have := SZ14.out; have := SZ15.out; have := SZ16.out; have := SZ17.out; have := SZ18.out; have := SZ19.out; have := SZ20.out; have := SZ21.out; omega)) (.int .i64 8))
  replace BKg43 := Aside0.mk (blk_far BKg43.out (p := ⟨g13, 3, none⟩) (by show _ ≠ _; have := SZ1.out; have := SZ2.out; have := SZ3.out; have := SZ4.out; have := SZ5.out; have := SZ6.out; have := SZ7.out; have := SZ8.out; have := SZ9.out; have := SZ10.out; have := SZ11.out; have := SZ12.out; have := SZ13.out; have := SZ14.out; have := SZ15.out; have := SZ16.out; have := SZ17.out; have := SZ18.out; have := SZ19.out; have := SZ20.out; have := SZ21.out; omega) (.int .i64 8))
  replace HOb := Aside0.mk (Kd.R_far HOb.out (p := ⟨g13, 3, none⟩) (Iv_ne (g := g13) (by have := SZ1.out; have := SZ2.out; have := SZ3.out; have := SZ4.out; have := SZ5.out; have := SZ6.out; have := SZ7.out; have := SZ8.out; have := SZ9.out; have := SZ10.out; have := SZ11.out; have := SZ12.out; have := SZ13.out; have := SZ14.out; have := SZ15.out; have := SZ16.out; have := SZ17.out; have := SZ18.out; have := SZ19.out; have := SZ20.out; have := SZ21.out; omega)) (.int .i64 8))
  replace BKg9 := Aside0.mk (blk_far BKg9.out (p := ⟨g13, 3, none⟩) (by show _ ≠ _; have := SZ1.out; have := SZ2.out; have := SZ3.out; have := SZ4.out; have := SZ5.out; have := SZ6.out; have := SZ7.out; have := SZ8.out; have := SZ9.out; have := SZ10.out; have := SZ11.out; have := SZ12.out; have := SZ13.out; have := SZ14.out; have := SZ15.out; have := SZ16.out; have := SZ17.out; have := SZ18.out; have := SZ19.out; have := SZ20.out; have := SZ21.out; omega) (.int .i64 8))
  replace HOd := Aside0.mk (Kd.R_far HOd.out (p := ⟨g13, 3, none⟩) (Iv_ne (g := g13) (by have := SZ1.out; have := SZ2.out; have := SZ3.out; have := SZ4.out; have := SZ5.out; have := SZ6.out; have := SZ7.out; have := SZ8.out; have := SZ9.out; have := SZ10.out; have := SZ11.out; have := SZ12.out; have := SZ13.out; have := SZ14.out; have := SZ15.out; have := SZ16.out; have := SZ17.out; have := SZ18.out; have := SZ19.out; have := SZ20.out; have := SZ21.out; omega)) (.int .i64 8))
  replace HOw := Aside0.mk (Kd.R_far HOw.out (p := ⟨g13, 3, none⟩) (Iv_ne (g := g13) (by have := SZ1.out; have := SZ2.out; have := SZ3.out; have := SZ4.out; have := SZ5.out; have := SZ6.out; have := SZ7.out; have := SZ8.out; have := SZ9.out; have := SZ10.out; have := SZ11.out; have := SZ12.out; have := SZ13.out; have := SZ14.out; have := SZ15.out; have := SZ16.out; have := SZ17.out; have := SZ18.out; have := SZ19.out; have := SZ20.out; have := SZ21.out; omega)) (.int .i64 8))
  replace BKg13 := Aside0.mk (blk_put BKg13.out 3 (.int .i64 8) rfl)
  replace HB := Aside0.mk (below_set HB.out (by have := SZ1.out; have := SZ2.out; have := SZ3.out; have := SZ4.out; have := SZ5.out; have := SZ6.out; have := SZ7.out; have := SZ8.out; have := SZ9.out; have := SZ10.out; have := SZ11.out; have := SZ12.out; have := SZ13.out; have := SZ14.out; have := SZ15.out; have := SZ16.out; have := SZ17.out; have := SZ18.out; have := SZ19.out; have := SZ20.out; have := SZ21.out; omega : w.heap.size ≤ g13) (j := 3) (v := .int .i64 8))
  replace HOm := Aside0.mk (Kd.R_far HOm.out (p := ⟨g13, 4, none⟩) (Iv_ne (g := g13) (by have := SZ1.out; have := SZ2.out; have := SZ3.out; have := SZ4.out; have := SZ5.out; have := SZ6.out; have := SZ7.out; have := SZ8.out; have := SZ9.out; have := SZ10.out; have := SZ11.out; have := SZ12.out; have := SZ13.out; have := SZ14.out; have := SZ15.out; have := SZ16.out; have := SZ17.out; have := SZ18.out; have := SZ19.out; have := SZ20.out; have := SZ21.out; omega)) (.slice w_A alB.length w_c))
  replace BKg1 := Aside0.mk (blk_far BKg1.out (p := ⟨g13, 4, none⟩) (by show _ ≠ _; have := SZ1.out; have := SZ2.out; have := SZ3.out; have := SZ4.out; have := SZ5.out; have := SZ6.out; have := SZ7.out; have := SZ8.out; have := SZ9.out; have := SZ10.out; have := SZ11.out; have := SZ12.out; have := SZ13.out; have := SZ14.out; have := SZ15.out; have := SZ16.out; have := SZ17.out; have := SZ18.out; have := SZ19.out; have := SZ20.out; have := SZ21.out; omega) (.slice w_A alB.length w_c))
  replace HOx := Aside0.mk (Kd.R_far HOx.out (p := ⟨g13, 4, none⟩) (Iv_ne (g := g13) (by have := SZ1.out; have := SZ2.out; have := SZ3.out; have := SZ4.out; have := SZ5.out; have := SZ6.out; have := SZ7.out; have := SZ8.out; have := SZ9.out; have := SZ10.out; have := SZ11.out; have := SZ12.out; have := SZ13.out; have := SZ14.out; have := SZ15.out; have := SZ16.out; have := SZ17.out; have := SZ18.out; have := SZ19.out; have := SZ20.out; have := SZ21.out; omega)) (.slice w_A alB.length w_c))
  replace BKg3 := Aside0.mk (blk_far BKg3.out (p := ⟨g13, 4, none⟩) (by show _ ≠ _; have := SZ1.out; have := SZ2.out; have := SZ3.out; have := SZ4.out; have := SZ5.out; have := SZ6.out; have := SZ7.out; have := SZ8.out; have := SZ9.out; have := SZ10.out; have := SZ11.out; have := SZ12.out; have := SZ13.out; have := SZ14.out; have := SZ15.out; have := SZ16.out; have := SZ17.out; have := SZ18.out; have := SZ19.out; have := SZ20.out; have := SZ21.out; omega) (.slice w_A alB.length w_c))
  replace HOy := Aside0.mk (Kd.R_far HOy.out (p := ⟨g13, 4, none⟩) (Iv_ne (g := g13) (by have := SZ1.out; have := SZ2.out; have := SZ3.out; have := SZ4.out; have := SZ5.out; have := SZ6.out; have := SZ7.out; have := SZ8.out; have := SZ9.out; have := SZ10.out; have := SZ11.out; have := SZ12.out; have := SZ13.out; have := SZ14.out; have := SZ15.out; have := SZ16.out; have := SZ17.out; have := SZ18.out; have := SZ19.out; have := SZ20.out; have := SZ21.out; omega)) (.slice w_A alB.length w_c))
  replace BKg4 := Aside0.mk (blk_far BKg4.out (p := ⟨g13, 4, none⟩) (by show _ ≠ _; have := SZ1.out; have := SZ2.out; have := SZ3.out; have := SZ4.out; have := SZ5.out; have := SZ6.out; have := SZ7.out; have := SZ8.out; have := SZ9.out; have := SZ10.out; have := SZ11.out; have := SZ12.out; have := SZ13.out; have := SZ14.out; have := SZ15.out; have := SZ16.out; have := SZ17.out; have := SZ18.out; have := SZ19.out; have := SZ20.out; have := SZ21.out; omega) (.slice w_A alB.length w_c))
  replace HOa := Aside0.mk (Kd.R_far HOa.out (p := ⟨g13, 4, none⟩) (Iv_ne (g := g13) (by have := SZ1.out; have := SZ2.out; have := SZ3.out; have := SZ4.out; have := SZ5.out; have := SZ6.out; have := SZ7.out; have := SZ8.out; have := SZ9.out; have := SZ10.out; have := SZ11.out; have := SZ12.out; have := SZ13.out; have := SZ14.out; have := SZ15.out; have := SZ16.out; have := SZ17.out; have := SZ18.out; have := SZ19.out; have := SZ20.out; have := SZ21.out; omega)) (.slice w_A alB.length w_c))
  replace BKg5 := Aside0.mk (blk_far BKg5.out (p := ⟨g13, 4, none⟩) (by show _ ≠ _; have := SZ1.out; have := SZ2.out; have := SZ3.out; have := SZ4.out; have := SZ5.out; have := SZ6.out; have := SZ7.out; have := SZ8.out; have := SZ9.out; have := SZ10.out; have := SZ11.out; have := SZ12.out; have := SZ13.out; have := SZ14.out; have := SZ15.out; have := SZ16.out; have := SZ17.out; have := SZ18.out; have := SZ19.out; have := SZ20.out; have := SZ21.out; omega) (.slice w_A alB.length w_c))
  replace HOr := Aside0.mk (Kd.R_far HOr.out (p := ⟨g13, 4, none⟩) (Iv_ne (g := g13) (by have := SZ1.out; have := SZ2.out; have := SZ3.out; have := SZ4.out; have := SZ5.out; have := SZ6.out; have := SZ7.out; have := SZ8.out; have := SZ9.out; have := SZ10.out; have := SZ11.out; have := SZ12.out; have := SZ13.out; have := SZ14.out; have := SZ15.out; have := SZ16.out; have := SZ17.out; have := SZ18.out; have := SZ19.out; have := SZ20.out; have := SZ21.out; omega)) (.slice w_A alB.length w_c))
  replace BKg43 := Aside0.mk (blk_far BKg43.out (p := ⟨g13, 4, none⟩) (by show _ ≠ _; have := SZ1.out; have := SZ2.out; have := SZ3.out; have := SZ4.out; have := SZ5.out; have := SZ6.out; have := SZ7.out; have := SZ8.out; have := SZ9.out; have := SZ10.out; have := SZ11.out; have := SZ12.out; have := SZ13.out; have := SZ14.out; have := SZ15.out; have := SZ16.out; have := SZ17.out; have := SZ18.out; have := SZ19.out; have := SZ20.out; have := SZ21.out; omega) (.slice w_A alB.length w_c))
  replace HOb := Aside0.mk (Kd.R_far HOb.out (p := ⟨g13, 4, none⟩) (Iv_ne (g := g13) (by have := SZ1.out; have := SZ2.out; have := SZ3.out; have := SZ4.out; have := SZ5.out; have := SZ6.out; have := SZ7.out; have := SZ8.out; have := SZ9.out; have := SZ10.out; have := SZ11.out; have := SZ12.out; have := SZ13.out; have := SZ14.out; have := SZ15.out; have := SZ16.out; have := SZ17.out; have := SZ18.out; have := SZ19.out; have := SZ20.out; have := SZ21.out; omega)) (.slice w_A alB.length w_c))
  replace BKg9 := Aside0.mk (blk_far BKg9.out (p := ⟨g13, 4, none⟩) (by show _ ≠ _; have := SZ1.out; have := SZ2.out; have := SZ3.out; have := SZ4.out; have := SZ5.out; have := SZ6.out; have := SZ7.out; have := SZ8.out; have := SZ9.out; have := SZ10.out; have := SZ11.out; have := SZ12.out; have := SZ13.out; have := SZ14.out; have := SZ15.out; have := SZ16.out; have := SZ17.out; have := SZ18.out; have := SZ19.out; have := SZ20.out; have := SZ21.out; omega) (.slice w_A alB.length w_c))
  replace HOd := Aside0.mk (Kd.R_far HOd.out (p := ⟨g13, 4, none⟩) (Iv_ne (g := g13) (by have := SZ1.out; have := SZ2.out; have := SZ3.out; have := SZ4.out; have := SZ5.out; have := SZ6.out; have := SZ7.out; have := SZ8.out; have := SZ9.out; have := SZ10.out; have := SZ11.out; have := SZ12.out; have := SZ13.out; have := SZ14.out; have := SZ15.out; have := SZ16.out; have := SZ17.out; have := SZ18.out; have := SZ19.out; have := SZ20.out; have := SZ21.out; omega)) (.slice w_A alB.length w_c))
  replace HOw := Aside0.mk (Kd.R_far HOw.out (p := ⟨g13, 4, none⟩) (Iv_ne (g := g13) (by have := SZ1.out; have := SZ2.out; have := SZ3.out; have := SZ4.out; have := SZ5.out; have := SZ6.out; have := SZ7.out; have := SZ8.out; have := SZ9.out; have := SZ10.out; have := SZ11.out; have := SZ12.out; have := SZ13.out; have := SZ14.out; have := SZ15.out; have := SZ16.out; have := SZ17.out; have := SZ18.out; have := SZ19.out; have := SZ20.out; have := SZ21.out; omega)) (.slice w_A alB.length w_c))
  replace BKg13 := Aside0.mk (blk_put BKg13.out 4 (.slice w_A alB.length w_c) rfl)
  replace HB := Aside0.mk (below_set HB.out (by have := SZ1.out; have := SZ2.out; have := SZ3.out; have := SZ4.out; have := SZ5.out; have := SZ6.out; have := SZ7.out; have := SZ8.out; have := SZ9.out; have := SZ10.out; have := SZ11.out; have := SZ12.out; have := SZ13.out; have := SZ14.out; have := SZ15.out; have := SZ16.out; have := SZ17.out; have := SZ18.out; have := SZ19.out; have := SZ20.out; have := SZ21.out; omega : w.heap.size ≤ g13) (j := 4) (v := .slice w_A alB.length w_c))
  have SZ22 := Aside0.mk (show w21.heap.size ≤ (((((w21.setCell ⟨g13, 0, none⟩ (.int .i64 2)).setCell ⟨g13, 1, none⟩ (.int .i64 1)).setCell ⟨g13, 2, none⟩ (.int .i64 16)).setCell ⟨g13, 3, none⟩ (.int .i64 8)).setCell ⟨g13, 4, none⟩ (.slice w_A alB.length w_c)).heap.size from by simp [World.setCell])
  generalize (((((w21.setCell ⟨g13, 0, none⟩ (.int .i64 2)).setCell ⟨g13, 1, none⟩ (.int .i64 1)).setCell ⟨g13, 2, none⟩ (.int .i64 16)).setCell ⟨g13, 3, none⟩ (.int .i64 8)).setCell ⟨g13, 4, none⟩ (.slice w_A alB.length w_c)) = w22 at HB HOm BKg1 HOx BKg3 HOy BKg4 HOa BKg5 HOr BKg43 HOb BKg9 HOd HOw BKg13 SZ22 ⊢
  have hcg1_0 : w22.cell? ⟨g1, 0, none⟩ = some (.int .i64 2) := (blk_cell BKg1.out 0).trans rfl
  have hfg1_0 := blk_frozen BKg1.out 0
  have hcg1_1 : w22.cell? ⟨g1, 1, none⟩ = some (.int .i64 1) := (blk_cell BKg1.out 1).trans rfl
  have hfg1_1 := blk_frozen BKg1.out 1
  have hcg1_2 : w22.cell? ⟨g1, 2, none⟩ = some (.int .i64 16) := (blk_cell BKg1.out 2).trans rfl
  have hfg1_2 := blk_frozen BKg1.out 2
  have hcg1_3 : w22.cell? ⟨g1, 3, none⟩ = some (.int .i64 8) := (blk_cell BKg1.out 3).trans rfl
  have hfg1_3 := blk_frozen BKg1.out 3
  have hcg1_4 : w22.cell? ⟨g1, 4, none⟩ = some (.slice m_A alB.length m_c) := (blk_cell BKg1.out 4).trans rfl
  have hfg1_4 := blk_frozen BKg1.out 4
  have hcg5_0 : w22.cell? ⟨g5, 0, none⟩ = some (.int .i64 2) := (blk_cell BKg5.out 0).trans rfl
  have hfg5_0 := blk_frozen BKg5.out 0
  have hcg5_1 : w22.cell? ⟨g5, 1, none⟩ = some (.int .i64 1) := (blk_cell BKg5.out 1).trans rfl
  have hfg5_1 := blk_frozen BKg5.out 1
  have hcg5_2 : w22.cell? ⟨g5, 2, none⟩ = some (.int .i64 16) := (blk_cell BKg5.out 2).trans rfl
  have hfg5_2 := blk_frozen BKg5.out 2
  have hcg5_3 : w22.cell? ⟨g5, 3, none⟩ = some (.int .i64 8) := (blk_cell BKg5.out 3).trans rfl
  have hfg5_3 := blk_frozen BKg5.out 3
  have hcg5_4 : w22.cell? ⟨g5, 4, none⟩ = some (.slice a_A alA.length a_c) := (blk_cell BKg5.out 4).trans rfl
  have hfg5_4 := blk_frozen BKg5.out 4
  have hcg13_0 : w22.cell? ⟨g13, 0, none⟩ = some (.int .i64 2) := (blk_cell BKg13.out 0).trans rfl
  have hfg13_0 := blk_frozen BKg13.out 0
  have hcg13_1 : w22.cell? ⟨g13, 1, none⟩ = some (.int .i64 1) := (blk_cell BKg13.out 1).trans rfl
  have hfg13_1 := blk_frozen BKg13.out 1
  have hcg13_2 : w22.cell? ⟨g13, 2, none⟩ = some (.int .i64 16) := (blk_cell BKg13.out 2).trans rfl
  have hfg13_2 := blk_frozen BKg13.out 2
  have hcg13_3 : w22.cell? ⟨g13, 3, none⟩ = some (.int .i64 8) := (blk_cell BKg13.out 3).trans rfl
  have hfg13_3 := blk_frozen BKg13.out 3
  have hcg13_4 : w22.cell? ⟨g13, 4, none⟩ = some (.slice w_A alB.length w_c) := (blk_cell BKg13.out 4).trans rfl
  have hfg13_4 := blk_frozen BKg13.out 4
  (try clear hcg1_0 hfg1_0)
  (try clear hcg1_1 hfg1_1)
  (try clear hcg1_2 hfg1_2)
  (try clear hcg1_3 hfg1_3)
  (try clear hcg1_4 hfg1_4)
  (try clear hcg5_0 hfg5_0)
  (try clear hcg5_1 hfg5_1)
  (try clear hcg5_2 hfg5_2)
  (try clear hcg5_3 hfg5_3)
  (try clear hcg5_4 hfg5_4)
  (try clear hcg13_0 hfg13_0)
  (try clear hcg13_1 hfg13_1)
  (try clear hcg13_2 hfg13_2)
  (try clear hcg13_3 hfg13_3)
  (try clear hcg13_4 hfg13_4)
  have hcg3_0 : w22.cell? ⟨g3, 0, none⟩ = some (.int .i64 1) := (blk_cell BKg3.out 0).trans rfl
  have hfg3_0 := blk_frozen BKg3.out 0
  have hcg3_1 : w22.cell? ⟨g3, 1, none⟩ = some (.int .i64 2) := (blk_cell BKg3.out 1).trans rfl
  have hfg3_1 := blk_frozen BKg3.out 1
  have hcg3_2 : w22.cell? ⟨g3, 2, none⟩ = some (.int .i64 0) := (blk_cell BKg3.out 2).trans rfl
  have hfg3_2 := blk_frozen BKg3.out 2
  have hcg3_3 : w22.cell? ⟨g3, 3, none⟩ = some (.slice x_A alX.length x_c) := (blk_cell BKg3.out 3).trans rfl
  have hfg3_3 := blk_frozen BKg3.out 3
  have tok17 : True := trivial
  go_wp2_with (first | (have _ := tok17; go_at_call 14; (with_reducible refine (image_Diff.calls 100 2 1 16 8 a_A a_c alA 2 1 16 8 m_A m_c alB [] 90 _ ?s1 (Kd.R_reads' HOa.out).2.1 ?s2 (Kd.R_reads' HOm.out).2.1 alive_diff2).mono ?_); (case s1 => exact (Kd.R_reads' (Kd.R_below HOa.out (by repeat (first | exact Below.refl _ _ | apply below_alloc | apply pw_below_drewN | apply below_drew1)))).2.2); (case s2 => exact (Kd.R_reads' (Kd.R_below HOm.out (by repeat (first | exact Below.refl _ _ | apply below_alloc | apply pw_below_drewN | apply below_drew1)))).2.2); rintro e w23 ⟨v_n, rfl, ho, hb⟩; (try clear hcg3_0 hfg3_0); (try clear hcg3_1 hfg3_1); (try clear hcg3_2 hfg3_2); (try clear hcg3_3 hfg3_3); have hs : Below w22.heap.size w22 w23 := below_step (by repeat (first | exact Below.refl _ _ | apply below_alloc | apply pw_below_drewN | apply below_drew1)) hb; have hl : w22.heap.size ≤ _ := below_size (w := w22) (by repeat (first | exact Below.refl _ _ | apply below_alloc | apply pw_below_drewN | apply below_drew1)); have SZ23 := Aside0.mk (show w22.heap.size ≤ w23.heap.size from hs.size); replace HOm := Aside0.mk (Kd.R_below HOm.out hs); replace BKg1 := Aside0.mk (blk_below BKg1.out hs); replace HOx := Aside0.mk (Kd.R_below HOx.out hs); replace BKg3 := Aside0.mk (blk_below BKg3.out hs); replace HOy := Aside0.mk (Kd.R_below HOy.out hs); replace BKg4 := Aside0.mk (blk_below BKg4.out hs); replace HOa := Aside0.mk (Kd.R_below HOa.out hs); replace BKg5 := Aside0.mk (blk_below BKg5.out hs); replace HOr := Aside0.mk (Kd.R_below HOr.out hs); replace BKg43 := Aside0.mk (blk_below BKg43.out hs); replace HOb := Aside0.mk (Kd.R_below HOb.out hs); replace BKg9 := Aside0.mk (blk_below BKg9.out hs); replace HOd := Aside0.mk (Kd.R_below HOd.out hs); replace HOw := Aside0.mk (Kd.R_below HOw.out hs); replace BKg13 := Aside0.mk (blk_below BKg13.out hs); replace HB := Aside0.mk (below_step HB.out hs); clear ho; clear hb hs; (try clear hl); have hcg3_0 : w23.cell? ⟨g3, 0, none⟩ = some (.int .i64 1) := (blk_cell BKg3.out 0).trans rfl; have hfg3_0 := blk_frozen BKg3.out 0; have hcg3_1 : w23.cell? ⟨g3, 1, none⟩ = some (.int .i64 2) := (blk_cell BKg3.out 1).trans rfl; have hfg3_1 := blk_frozen BKg3.out 1; have hcg3_2 : w23.cell? ⟨g3, 2, none⟩ = some (.int .i64 0) := (blk_cell BKg3.out 2).trans rfl; have hfg3_2 := blk_frozen BKg3.out 2; have hcg3_3 : w23.cell? ⟨g3, 3, none⟩ = some (.slice x_A alX.length x_c) := (blk_cell BKg3.out 3).trans rfl; have hfg3_3 := blk_frozen BKg3.out 3; clear tok17; have tok18 : True := trivial) | (have _ := tok18; (with_reducible refine gate_dst (N := 67) rfl ?_); refine lit_event ?hg (N := 67) (k := 2) ?hd (cs := #[.int .i64 1, .int .i64 2, .int .i64 0, .slice x_A alX.length x_c, .int .i64 1, .int .i64 2, .int .i64 0, .slice x_A alX.length x_c]) (t := 35) ?hr ?_; (case hd => rfl); (case hg => rfl); (case hr => first | (go_simp; done) | (go_simp; rfl)); intro g67 hg w24 hbox hb; have hs : Below w23.heap.size w23 w24 := below_step (by repeat (first | exact Below.refl _ _ | apply below_alloc | apply pw_below_drewN | apply below_drew1)) hb; have SZ24 := Aside0.mk (show w23.heap.size ≤ g67 ∧ g67 < w24.heap.size from ⟨by rw [hg]; exact (below_size (by repeat (first | exact Below.refl _ _ | apply below_alloc | apply pw_below_drewN | apply below_drew1))), blk_lt hbox⟩); (try clear hcg3_0 hfg3_0); (try clear hcg3_1 hfg3_1); (try clear hcg3_2 hfg3_2); (try clear hcg3_3 hfg3_3); replace HOm := Aside0.mk (Kd.R_below HOm.out hs); replace BKg1 := Aside0.mk (blk_below BKg1.out hs); replace HOx := Aside0.mk (Kd.R_below HOx.out hs); replace BKg3 := Aside0.mk (blk_below BKg3.out hs); replace HOy := Aside0.mk (Kd.R_below HOy.out hs); replace BKg4 := Aside0.mk (blk_below BKg4.out hs); replace HOa := Aside0.mk (Kd.R_below HOa.out hs); replace BKg5 := Aside0.mk (blk_below BKg5.out hs); replace HOr := Aside0.mk (Kd.R_below HOr.out hs); replace BKg43 := Aside0.mk (blk_below BKg43.out hs); replace HOb := Aside0.mk (Kd.R_below HOb.out hs); replace BKg9 := Aside0.mk (blk_below BKg9.out hs); replace HOd := Aside0.mk (Kd.R_below HOd.out hs); replace HOw := Aside0.mk (Kd.R_below HOw.out hs); replace BKg13 := Aside0.mk (blk_below BKg13.out hs); replace HB := Aside0.mk (below_step HB.out hs); have hneg1_g67 : g1 ≠ g67 := (by have := SZ24.out; have := SZ1.out; have := SZ2.out; have := SZ3.out; have := SZ4.out; have := SZ5.out; have := SZ6.out; have := SZ7.out; have := SZ8.out; have := SZ9.out; have := SZ10.out; have := SZ11.out; have := SZ12.out; have := SZ13.out; have := SZ14.out; have := SZ15.out; have := SZ16.out; have := SZ17.out; have := SZ18.out; have := SZ19.out; have := SZ20.out; have := SZ21.out; have := SZ22.out; have := SZ23.out; omega); have hneg67_g1 : g67 ≠ g1 := hneg1_g67.symm; have hneg3_g67 : g3 ≠ g67 := (by have := SZ24.out; have := SZ1.out; have := SZ2.out; have := SZ3.out; have := SZ4.out; have := SZ5.out; have := SZ6.out; have := SZ7.out; have := SZ8.out; have := SZ9.out; have := SZ10.out; have := SZ11.out; have := SZ12.out; have := SZ13.out; have := SZ14.out; have := SZ15.out; have := SZ16.out; have := SZ17.out; have := SZ18.out; have := SZ19.out; have := SZ20.out; have := SZ21.out; have := SZ22.out; have := SZ23.out; omega); have hneg67_g3 : g67 ≠ g3 := hneg3_g67.symm; have hneg4_g67 : g4 ≠ g67 := (by have := SZ24.out; have := SZ1.out; have := SZ2.out; have := SZ3.out; have := SZ4.out; have := SZ5.out; have := SZ6.out; have := SZ7.out; have := SZ8.out; have := SZ9.out; have := SZ10.out; have := SZ11.out; have := SZ12.out; have := SZ13.out; have := SZ14.out; have := SZ15.out; have := SZ16.out; have := SZ17.out; have := SZ18.out; have := SZ19.out; have := SZ20.out; have := SZ21.out; have := SZ22.out; have := SZ23.out; omega); have hneg67_g4 : g67 ≠ g4 := hneg4_g67.symm; have hneg5_g67 : g5 ≠ g67 := (by have := SZ24.out; have := SZ1.out; have := SZ2.out; have := SZ3.out; have := SZ4.out; have := SZ5.out; have := SZ6.out; have := SZ7.out; have := SZ8.out; have := SZ9.out; have := SZ10.out; have := SZ11.out; have := SZ12.out; have := SZ13.out; have := SZ14.out; have := SZ15.out; have := SZ16.out; have := SZ17.out; have := SZ18.out; have := SZ19.out; have := SZ20.out; have := SZ21.out; have := SZ22.out; have := SZ23.out; omega); have hneg67_g5 : g67 ≠ g5 := hneg5_g67.symm; have hneg43_g67 : g43 ≠ g67 := (by have := SZ24.out; have := SZ1.out; have := SZ2.out; have := SZ3.out; have := SZ4.out; have := SZ5.out; have := SZ6.out; have := SZ7.out; have := SZ8.out; have := SZ9.out; have := SZ10.out; have := SZ11.out; have := SZ12.out; have := SZ13.out; have := SZ14.out; have := SZ15.out; have := SZ16.out; have := SZ17.out; have := SZ18.out; have := SZ19.out; have := SZ20.out; have := SZ21.out; have := SZ22.out; have := SZ23.out; omega); have hneg67_g43 : g67 ≠ g43 := hneg43_g67.symm; have hneg9_g67 : g9 ≠ g67 := (by have := SZ24.out; have := SZ1.out; have := SZ2.out; have := SZ3.out; have := SZ4.out; have := SZ5.out; have := SZ6.out; have := SZ7.out; have := SZ8.out; have := SZ9.out; have := SZ10.out; have := SZ11.out; have := SZ12.out; have := SZ13.out; have := SZ14.out; have := SZ15.out; have := SZ16.out; have := SZ17.out; have := SZ18.out; have := SZ19.out; have := SZ20.out; have := SZ21.out; have := SZ22.out; have := SZ23.out; omega); have hneg67_g9 : g67 ≠ g9 := hneg9_g67.symm; have hneg13_g67 : g13 ≠ g67 := (by have := SZ24.out; have := SZ1.out; have := SZ2.out; have := SZ3.out; have := SZ4.out; have := SZ5.out; have := SZ6.out; have := SZ7.out; have := SZ8.out; have := SZ9.out; have := SZ10.out; have := SZ11.out; have := SZ12.out; have := SZ13.out; have := SZ14.out; have := SZ15.out; have := SZ16.out; have := SZ17.out; have := SZ18.out; have := SZ19.out; have := SZ20.out; have := SZ21.out; have := SZ22.out; have := SZ23.out; omega); have hneg67_g13 : g67 ≠ g13 := hneg13_g67.symm; have BKg67 := Aside0.mk hbox; clear hb hbox hg hs; have hcg3_0 : w24.cell? ⟨g3, 0, none⟩ = some (.int .i64 1) := (blk_cell BKg3.out 0).trans rfl; have hfg3_0 := blk_frozen BKg3.out 0; have hcg3_1 : w24.cell? ⟨g3, 1, none⟩ = some (.int .i64 2) := (blk_cell BKg3.out 1).trans rfl; have hfg3_1 := blk_frozen BKg3.out 1; have hcg3_2 : w24.cell? ⟨g3, 2, none⟩ = some (.int .i64 0) := (blk_cell BKg3.out 2).trans rfl; have hfg3_2 := blk_frozen BKg3.out 2; have hcg3_3 : w24.cell? ⟨g3, 3, none⟩ = some (.slice x_A alX.length x_c) := (blk_cell BKg3.out 3).trans rfl; have hfg3_3 := blk_frozen BKg3.out 3; clear tok18))
  (try clear hcg3_0 hfg3_0)
  (try clear hcg3_1 hfg3_1)
  (try clear hcg3_2 hfg3_2)
  (try clear hcg3_3 hfg3_3)
  have hcg1_0 : w24.cell? ⟨g1, 0, none⟩ = some (.int .i64 2) := (blk_cell BKg1.out 0).trans rfl
  have hfg1_0 := blk_frozen BKg1.out 0
  have hcg1_1 : w24.cell? ⟨g1, 1, none⟩ = some (.int .i64 1) := (blk_cell BKg1.out 1).trans rfl
  have hfg1_1 := blk_frozen BKg1.out 1
  have hcg1_2 : w24.cell? ⟨g1, 2, none⟩ = some (.int .i64 16) := (blk_cell BKg1.out 2).trans rfl
  have hfg1_2 := blk_frozen BKg1.out 2
  have hcg1_3 : w24.cell? ⟨g1, 3, none⟩ = some (.int .i64 8) := (blk_cell BKg1.out 3).trans rfl
  have hfg1_3 := blk_frozen BKg1.out 3
  have hcg1_4 : w24.cell? ⟨g1, 4, none⟩ = some (.slice m_A alB.length m_c) := (blk_cell BKg1.out 4).trans rfl
  have hfg1_4 := blk_frozen BKg1.out 4
  have hcg5_0 : w24.cell? ⟨g5, 0, none⟩ = some (.int .i64 2) := (blk_cell BKg5.out 0).trans rfl
  have hfg5_0 := blk_frozen BKg5.out 0
  have hcg5_1 : w24.cell? ⟨g5, 1, none⟩ = some (.int .i64 1) := (blk_cell BKg5.out 1).trans rfl
  have hfg5_1 := blk_frozen BKg5.out 1
  have hcg5_2 : w24.cell? ⟨g5, 2, none⟩ = some (.int .i64 16) := (blk_cell BKg5.out 2).trans rfl
  have hfg5_2 := blk_frozen BKg5.out 2
  have hcg5_3 : w24.cell? ⟨g5, 3, none⟩ = some (.int .i64 8) := (blk_cell BKg5.out 3).trans rfl
  have hfg5_3 := blk_frozen BKg5.out 3
  have hcg5_4 : w24.cell? ⟨g5, 4, none⟩ = some (.slice a_A alA.length a_c) := (blk_cell BKg5.out 4).trans rfl
  have hfg5_4 := blk_frozen BKg5.out 4
  have hcg13_0 : w24.cell? ⟨g13, 0, none⟩ = some (.int .i64 2) := (blk_cell BKg13.out 0).trans rfl
  have hfg13_0 := blk_frozen BKg13.out 0
  have hcg13_1 : w24.cell? ⟨g13, 1, none⟩ = some (.int .i64 1) := (blk_cell BKg13.out 1).trans rfl
  have hfg13_1 := blk_frozen BKg13.out 1
  have hcg13_2 : w24.cell? ⟨g13, 2, none⟩ = some (.int .i64 16) := (blk_cell BKg13.out 2).trans rfl
  have hfg13_2 := blk_frozen BKg13.out 2
  have hcg13_3 : w24.cell? ⟨g13, 3, none⟩ = some (.int .i64 8) := (blk_cell BKg13.out 3).trans rfl
  have hfg13_3 := blk_frozen BKg13.out 3
  have hcg13_4 : w24.cell? ⟨g13, 4, none⟩ = some (.slice w_A alB.length w_c) := (blk_cell BKg13.out 4).trans rfl
  have hfg13_4 := blk_frozen BKg13.out 4
  have tok19 : True := trivial
  go_wp2_with (first | (have _ := tok19; go_at_call 12; (with_reducible refine (Rows_two g67 x_A x_c _ (by (with_reducible repeat (first | refine blk_drewN ?_ _ | refine blk_drew ?_ | refine blk_alloc ?_ _)); exact BKg67.out) (Kd.R_reads' HOx.out).2.1 ?s1).mono ?_); (case s1 => exact (Kd.R_reads' (Kd.R_below HOx.out (by repeat (first | exact Below.refl _ _ | apply below_alloc | apply pw_below_drewN | apply below_drew1)))).2.2); rintro e w25 ⟨v_l, rfl, ho, hb⟩; (try clear hcg1_0 hfg1_0); (try clear hcg1_1 hfg1_1); (try clear hcg1_2 hfg1_2); (try clear hcg1_3 hfg1_3); (try clear hcg1_4 hfg1_4); (try clear hcg5_0 hfg5_0); (try clear hcg5_1 hfg5_1); (try clear hcg5_2 hfg5_2); (try clear hcg5_3 hfg5_3); (try clear hcg5_4 hfg5_4); (try clear hcg13_0 hfg13_0); (try clear hcg13_1 hfg13_1); (try clear hcg13_2 hfg13_2); (try clear hcg13_3 hfg13_3); (try clear hcg13_4 hfg13_4); have hs : Below w24.heap.size w24 w25 := below_step (by repeat (first | exact Below.refl _ _ | apply below_alloc | apply pw_below_drewN | apply below_drew1)) hb; have hl : w24.heap.size ≤ _ := below_size (w := w24) (by repeat (first | exact Below.refl _ _ | apply below_alloc | apply pw_below_drewN | apply below_drew1)); have SZ25 := Aside0.mk (show w24.heap.size ≤ w25.heap.size from hs.size); replace HOm := Aside0.mk (Kd.R_below HOm.out hs); replace BKg1 := Aside0.mk (blk_below BKg1.out hs); replace HOx := Aside0.mk (Kd.R_below HOx.out hs); replace BKg3 := Aside0.mk (blk_below BKg3.out hs); replace HOy := Aside0.mk (Kd.R_below HOy.out hs); replace BKg4 := Aside0.mk (blk_below BKg4.out hs); replace HOa := Aside0.mk (Kd.R_below HOa.out hs); replace BKg5 := Aside0.mk (blk_below BKg5.out hs); replace HOr := Aside0.mk (Kd.R_below HOr.out hs); replace BKg43 := Aside0.mk (blk_below BKg43.out hs); replace HOb := Aside0.mk (Kd.R_below HOb.out hs); replace BKg9 := Aside0.mk (blk_below BKg9.out hs); replace HOd := Aside0.mk (Kd.R_below HOd.out hs); replace HOw := Aside0.mk (Kd.R_below HOw.out hs); replace BKg13 := Aside0.mk (blk_below BKg13.out hs); replace BKg67 := Aside0.mk (blk_below BKg67.out hs); have HOl := Aside0.mk (R_iv ho (below_size (by repeat (first | exact HB.out | apply below_alloc | apply pw_below_drewN | apply below_drew1))) hl); replace HB := Aside0.mk (below_step HB.out hs); clear ho; obtain ⟨l_A, l_c, e_⟩ := Kd.R_slice HOl.out; subst e_; have e_r : (rowOf aAt alA 3).length = 3 := rfl; have e_X := LX.out; have e_Y := LY.out; have hcr := (Kd.R_reads' HOr.out).2.2; rw [alive_row] at hcr; obtain ⟨ra, B0, k0, B1, k1, er, q00, q01, _⟩ := pair_elem hcr 0 (by simp); obtain ⟨rb, B2, k2, B3, k3, er2, q10, q11, hcx⟩ := pair_elem hcr 1 (by simp); subst er; obtain rfl : ra = rb := (by injection er2); clear er2 hcr; obtain ⟨xb, exb, hx39⟩ := byte_at hcx 39 (by simp [alX]); subst exb; clear hcx; have hcd := (Kd.R_reads' HOd.out).2.2; obtain ⟨da, D3, dc, xx, ed, hdr, _, _, d0, d1, d2, d3, hcy⟩ := put_elem hcd 0 (by simp); subst ed; obtain rfl : (⟨1, 2, 0, alY⟩ : S35) = xx := (by have h := hdr; simp at h; exact h.symm ▸ rfl); obtain ⟨yb, eyb, hy0⟩ := byte_at hcy 0 (by simp [alY]); subst eyb; clear hcy hcd hdr; obtain ⟨la, el, hl0⟩ := Kd.at_int (Kd.R_reads' HOl.out).2.2 0 (by omega) (by simp); subst el; replace hx39 := hx39.trans (show _ = some (Value.int .u8 1) from rfl); replace hy0 := hy0.trans (show _ = some (Value.int .u8 2) from rfl); (try simp [al_a0, al_a2, al_a39] at q00); (try simp [al_a0, al_a2, al_a39] at q01); (try simp [al_a0, al_a2, al_a39] at q10); (try simp [al_a0, al_a2, al_a39] at q11); (try simp [al_a0, al_a2, al_a39] at d0); (try simp [al_a0, al_a2, al_a39] at d1); (try simp [al_a0, al_a2, al_a39] at d2); (try simp [al_a0, al_a2, al_a39] at d3); (try simp [al_a0, al_a2, al_a39] at hx39); (try simp [al_a0, al_a2, al_a39] at hy0); (try simp [al_a0, al_a2, al_a39] at hl0); have HCl := Aside0.mk hl0; clear hl0; clear hb hs; (try clear hl); have hcg1_0 : w25.cell? ⟨g1, 0, none⟩ = some (.int .i64 2) := (blk_cell BKg1.out 0).trans rfl; have hfg1_0 := blk_frozen BKg1.out 0; have hcg1_1 : w25.cell? ⟨g1, 1, none⟩ = some (.int .i64 1) := (blk_cell BKg1.out 1).trans rfl; have hfg1_1 := blk_frozen BKg1.out 1; have hcg1_2 : w25.cell? ⟨g1, 2, none⟩ = some (.int .i64 16) := (blk_cell BKg1.out 2).trans rfl; have hfg1_2 := blk_frozen BKg1.out 2; have hcg1_3 : w25.cell? ⟨g1, 3, none⟩ = some (.int .i64 8) := (blk_cell BKg1.out 3).trans rfl; have hfg1_3 := blk_frozen BKg1.out 3; have hcg1_4 : w25.cell? ⟨g1, 4, none⟩ = some (.slice m_A alB.length m_c) := (blk_cell BKg1.out 4).trans rfl; have hfg1_4 := blk_frozen BKg1.out 4; have hcg5_0 : w25.cell? ⟨g5, 0, none⟩ = some (.int .i64 2) := (blk_cell BKg5.out 0).trans rfl; have hfg5_0 := blk_frozen BKg5.out 0; have hcg5_1 : w25.cell? ⟨g5, 1, none⟩ = some (.int .i64 1) := (blk_cell BKg5.out 1).trans rfl; have hfg5_1 := blk_frozen BKg5.out 1; have hcg5_2 : w25.cell? ⟨g5, 2, none⟩ = some (.int .i64 16) := (blk_cell BKg5.out 2).trans rfl; have hfg5_2 := blk_frozen BKg5.out 2; have hcg5_3 : w25.cell? ⟨g5, 3, none⟩ = some (.int .i64 8) := (blk_cell BKg5.out 3).trans rfl; have hfg5_3 := blk_frozen BKg5.out 3; have hcg5_4 : w25.cell? ⟨g5, 4, none⟩ = some (.slice a_A alA.length a_c) := (blk_cell BKg5.out 4).trans rfl; have hfg5_4 := blk_frozen BKg5.out 4; have hcg13_0 : w25.cell? ⟨g13, 0, none⟩ = some (.int .i64 2) := (blk_cell BKg13.out 0).trans rfl; have hfg13_0 := blk_frozen BKg13.out 0; have hcg13_1 : w25.cell? ⟨g13, 1, none⟩ = some (.int .i64 1) := (blk_cell BKg13.out 1).trans rfl; have hfg13_1 := blk_frozen BKg13.out 1; have hcg13_2 : w25.cell? ⟨g13, 2, none⟩ = some (.int .i64 16) := (blk_cell BKg13.out 2).trans rfl; have hfg13_2 := blk_frozen BKg13.out 2; have hcg13_3 : w25.cell? ⟨g13, 3, none⟩ = some (.int .i64 8) := (blk_cell BKg13.out 3).trans rfl; have hfg13_3 := blk_frozen BKg13.out 3; have hcg13_4 : w25.cell? ⟨g13, 4, none⟩ = some (.slice w_A alB.length w_c) := (blk_cell BKg13.out 4).trans rfl; have hfg13_4 := blk_frozen BKg13.out 4; have xHCl := HCl.out; clear tok19; have tok20 : True := trivial) | (have _ := tok20; go_at_call 34; (with_reducible refine (image_Same.calls 100 2 1 16 8 w_A w_c alB 2 1 16 8 m_A m_c alB true _ ?s1 (Kd.R_reads' HOw.out).2.1 ?s2 (Kd.R_reads' HOm.out).2.1 alive_same1).mono ?_); (case s1 => exact (Kd.R_reads' (Kd.R_below HOw.out (by repeat (first | exact Below.refl _ _ | apply below_alloc | apply pw_below_drewN | apply below_drew1)))).2.2); (case s2 => exact (Kd.R_reads' (Kd.R_below HOm.out (by repeat (first | exact Below.refl _ _ | apply below_alloc | apply pw_below_drewN | apply below_drew1)))).2.2); rintro e w26 ⟨rfl, hb⟩; (try clear hcg1_0 hfg1_0); (try clear hcg1_1 hfg1_1); (try clear hcg1_2 hfg1_2); (try clear hcg1_3 hfg1_3); (try clear hcg1_4 hfg1_4); (try clear hcg5_0 hfg5_0); (try clear hcg5_1 hfg5_1); (try clear hcg5_2 hfg5_2); (try clear hcg5_3 hfg5_3); (try clear hcg5_4 hfg5_4); (try clear hcg13_0 hfg13_0); (try clear hcg13_1 hfg13_1); (try clear hcg13_2 hfg13_2); (try clear hcg13_3 hfg13_3); (try clear hcg13_4 hfg13_4); (try clear xHCl); have hs : Below w25.heap.size w25 w26 := below_step (by repeat (first | exact Below.refl _ _ | apply below_alloc | apply pw_below_drewN | apply below_drew1)) hb; have hl : w25.heap.size ≤ _ := below_size (w := w25) (by repeat (first | exact Below.refl _ _ | apply below_alloc | apply pw_below_drewN | apply below_drew1)); have SZ26 := Aside0.mk (show w25.heap.size ≤ w26.heap.size from hs.size); replace HOm := Aside0.mk (Kd.R_below HOm.out hs); replace BKg1 := Aside0.mk (blk_below BKg1.out hs); replace HOx := Aside0.mk (Kd.R_below HOx.out hs); replace BKg3 := Aside0.mk (blk_below BKg3.out hs); replace HOy := Aside0.mk (Kd.R_below HOy.out hs); replace BKg4 := Aside0.mk (blk_below BKg4.out hs); replace HOa := Aside0.mk (Kd.R_below HOa.out hs); replace BKg5 := Aside0.mk (blk_below BKg5.out hs); replace HOr := Aside0.mk (Kd.R_below HOr.out hs); replace BKg43 := Aside0.mk (blk_below BKg43.out hs); replace HOb := Aside0.mk (Kd.R_below HOb.out hs); replace BKg9 := Aside0.mk (blk_below BKg9.out hs); replace HOd := Aside0.mk (Kd.R_below HOd.out hs); replace HOw := Aside0.mk (Kd.R_below HOw.out hs); replace BKg13 := Aside0.mk (blk_below BKg13.out hs); replace BKg67 := Aside0.mk (blk_below BKg67.out hs); replace HOl := Aside0.mk (Kd.R_below HOl.out hs); replace HCl := Aside0.mk (pw_cell_below hs HCl.out); replace HB := Aside0.mk (below_step HB.out hs); clear hb hs; (try clear hl); have hcg1_0 : w26.cell? ⟨g1, 0, none⟩ = some (.int .i64 2) := (blk_cell BKg1.out 0).trans rfl; have hfg1_0 := blk_frozen BKg1.out 0; have hcg1_1 : w26.cell? ⟨g1, 1, none⟩ = some (.int .i64 1) := (blk_cell BKg1.out 1).trans rfl; have hfg1_1 := blk_frozen BKg1.out 1; have hcg1_2 : w26.cell? ⟨g1, 2, none⟩ = some (.int .i64 16) := (blk_cell BKg1.out 2).trans rfl; have hfg1_2 := blk_frozen BKg1.out 2; have hcg1_3 : w26.cell? ⟨g1, 3, none⟩ = some (.int .i64 8) := (blk_cell BKg1.out 3).trans rfl; have hfg1_3 := blk_frozen BKg1.out 3; have hcg1_4 : w26.cell? ⟨g1, 4, none⟩ = some (.slice m_A alB.length m_c) := (blk_cell BKg1.out 4).trans rfl; have hfg1_4 := blk_frozen BKg1.out 4; have hcg5_0 : w26.cell? ⟨g5, 0, none⟩ = some (.int .i64 2) := (blk_cell BKg5.out 0).trans rfl; have hfg5_0 := blk_frozen BKg5.out 0; have hcg5_1 : w26.cell? ⟨g5, 1, none⟩ = some (.int .i64 1) := (blk_cell BKg5.out 1).trans rfl; have hfg5_1 := blk_frozen BKg5.out 1; have hcg5_2 : w26.cell? ⟨g5, 2, none⟩ = some (.int .i64 16) := (blk_cell BKg5.out 2).trans rfl; have hfg5_2 := blk_frozen BKg5.out 2; have hcg5_3 : w26.cell? ⟨g5, 3, none⟩ = some (.int .i64 8) := (blk_cell BKg5.out 3).trans rfl; have hfg5_3 := blk_frozen BKg5.out 3; have hcg5_4 : w26.cell? ⟨g5, 4, none⟩ = some (.slice a_A alA.length a_c) := (blk_cell BKg5.out 4).trans rfl; have hfg5_4 := blk_frozen BKg5.out 4; have hcg13_0 : w26.cell? ⟨g13, 0, none⟩ = some (.int .i64 2) := (blk_cell BKg13.out 0).trans rfl; have hfg13_0 := blk_frozen BKg13.out 0; have hcg13_1 : w26.cell? ⟨g13, 1, none⟩ = some (.int .i64 1) := (blk_cell BKg13.out 1).trans rfl; have hfg13_1 := blk_frozen BKg13.out 1; have hcg13_2 : w26.cell? ⟨g13, 2, none⟩ = some (.int .i64 16) := (blk_cell BKg13.out 2).trans rfl; have hfg13_2 := blk_frozen BKg13.out 2; have hcg13_3 : w26.cell? ⟨g13, 3, none⟩ = some (.int .i64 8) := (blk_cell BKg13.out 3).trans rfl; have hfg13_3 := blk_frozen BKg13.out 3; have hcg13_4 : w26.cell? ⟨g13, 4, none⟩ = some (.slice w_A alB.length w_c) := (blk_cell BKg13.out 4).trans rfl; have hfg13_4 := blk_frozen BKg13.out 4; have xHCl := HCl.out; clear tok20; have tok21 : True := trivial) | (have _ := tok21; go_at_call 34; (with_reducible refine (image_Same.calls 100 2 1 16 8 a_A a_c alA 2 1 16 8 m_A m_c alB false _ ?s1 (Kd.R_reads' HOa.out).2.1 ?s2 (Kd.R_reads' HOm.out).2.1 alive_same2).mono ?_); (case s1 => exact (Kd.R_reads' (Kd.R_below HOa.out (by repeat (first | exact Below.refl _ _ | apply below_alloc | apply pw_below_drewN | apply below_drew1)))).2.2); (case s2 => exact (Kd.R_reads' (Kd.R_below HOm.out (by repeat (first | exact Below.refl _ _ | apply below_alloc | apply pw_below_drewN | apply below_drew1)))).2.2); rintro e w27 ⟨rfl, hb⟩; (try clear hcg1_0 hfg1_0); (try clear hcg1_1 hfg1_1); (try clear hcg1_2 hfg1_2); (try clear hcg1_3 hfg1_3); (try clear hcg1_4 hfg1_4); (try clear hcg5_0 hfg5_0); (try clear hcg5_1 hfg5_1); (try clear hcg5_2 hfg5_2); (try clear hcg5_3 hfg5_3); (try clear hcg5_4 hfg5_4); (try clear hcg13_0 hfg13_0); (try clear hcg13_1 hfg13_1); (try clear hcg13_2 hfg13_2); (try clear hcg13_3 hfg13_3); (try clear hcg13_4 hfg13_4); (try clear xHCl); have hs : Below w26.heap.size w26 w27 := below_step (by repeat (first | exact Below.refl _ _ | apply below_alloc | apply pw_below_drewN | apply below_drew1)) hb; have hl : w26.heap.size ≤ _ := below_size (w := w26) (by repeat (first | exact Below.refl _ _ | apply below_alloc | apply pw_below_drewN | apply below_drew1)); have SZ27 := Aside0.mk (show w26.heap.size ≤ w27.heap.size from hs.size); replace HOm := Aside0.mk (Kd.R_below HOm.out hs); replace BKg1 := Aside0.mk (blk_below BKg1.out hs); replace HOx := Aside0.mk (Kd.R_below HOx.out hs); replace BKg3 := Aside0.mk (blk_below BKg3.out hs); replace HOy := Aside0.mk (Kd.R_below HOy.out hs); replace BKg4 := Aside0.mk (blk_below BKg4.out hs); replace HOa := Aside0.mk (Kd.R_below HOa.out hs); replace BKg5 := Aside0.mk (blk_below BKg5.out hs); replace HOr := Aside0.mk (Kd.R_below HOr.out hs); replace BKg43 := Aside0.mk (blk_below BKg43.out hs); replace HOb := Aside0.mk (Kd.R_below HOb.out hs); replace BKg9 := Aside0.mk (blk_below BKg9.out hs); replace HOd := Aside0.mk (Kd.R_below HOd.out hs); replace HOw := Aside0.mk (Kd.R_below HOw.out hs); replace BKg13 := Aside0.mk (blk_below BKg13.out hs); replace BKg67 := Aside0.mk (blk_below BKg67.out hs); replace HOl := Aside0.mk (Kd.R_below HOl.out hs); replace HCl := Aside0.mk (pw_cell_below hs HCl.out); replace HB := Aside0.mk (below_step HB.out hs); clear hb hs; (try clear hl); have hcg1_0 : w27.cell? ⟨g1, 0, none⟩ = some (.int .i64 2) := (blk_cell BKg1.out 0).trans rfl; have hfg1_0 := blk_frozen BKg1.out 0; have hcg1_1 : w27.cell? ⟨g1, 1, none⟩ = some (.int .i64 1) := (blk_cell BKg1.out 1).trans rfl; have hfg1_1 := blk_frozen BKg1.out 1; have hcg1_2 : w27.cell? ⟨g1, 2, none⟩ = some (.int .i64 16) := (blk_cell BKg1.out 2).trans rfl; have hfg1_2 := blk_frozen BKg1.out 2; have hcg1_3 : w27.cell? ⟨g1, 3, none⟩ = some (.int .i64 8) := (blk_cell BKg1.out 3).trans rfl; have hfg1_3 := blk_frozen BKg1.out 3; have hcg1_4 : w27.cell? ⟨g1, 4, none⟩ = some (.slice m_A alB.length m_c) := (blk_cell BKg1.out 4).trans rfl; have hfg1_4 := blk_frozen BKg1.out 4; have hcg5_0 : w27.cell? ⟨g5, 0, none⟩ = some (.int .i64 2) := (blk_cell BKg5.out 0).trans rfl; have hfg5_0 := blk_frozen BKg5.out 0; have hcg5_1 : w27.cell? ⟨g5, 1, none⟩ = some (.int .i64 1) := (blk_cell BKg5.out 1).trans rfl; have hfg5_1 := blk_frozen BKg5.out 1; have hcg5_2 : w27.cell? ⟨g5, 2, none⟩ = some (.int .i64 16) := (blk_cell BKg5.out 2).trans rfl; have hfg5_2 := blk_frozen BKg5.out 2; have hcg5_3 : w27.cell? ⟨g5, 3, none⟩ = some (.int .i64 8) := (blk_cell BKg5.out 3).trans rfl; have hfg5_3 := blk_frozen BKg5.out 3; have hcg5_4 : w27.cell? ⟨g5, 4, none⟩ = some (.slice a_A alA.length a_c) := (blk_cell BKg5.out 4).trans rfl; have hfg5_4 := blk_frozen BKg5.out 4; have hcg13_0 : w27.cell? ⟨g13, 0, none⟩ = some (.int .i64 2) := (blk_cell BKg13.out 0).trans rfl; have hfg13_0 := blk_frozen BKg13.out 0; have hcg13_1 : w27.cell? ⟨g13, 1, none⟩ = some (.int .i64 1) := (blk_cell BKg13.out 1).trans rfl; have hfg13_1 := blk_frozen BKg13.out 1; have hcg13_2 : w27.cell? ⟨g13, 2, none⟩ = some (.int .i64 16) := (blk_cell BKg13.out 2).trans rfl; have hfg13_2 := blk_frozen BKg13.out 2; have hcg13_3 : w27.cell? ⟨g13, 3, none⟩ = some (.int .i64 8) := (blk_cell BKg13.out 3).trans rfl; have hfg13_3 := blk_frozen BKg13.out 3; have hcg13_4 : w27.cell? ⟨g13, 4, none⟩ = some (.slice w_A alB.length w_c) := (blk_cell BKg13.out 4).trans rfl; have hfg13_4 := blk_frozen BKg13.out 4; have xHCl := HCl.out; clear tok21))
  go_ret
  exact ⟨rfl, HB.out⟩
def twoslotlaw09_alive.f : Option Bool := some true
theorem twoslotlaw09_alive.calls (r : Bool) (w : World) (h : twoslotlaw09_alive.f = some r) : Calls Try.prog 9 #[] w fun e w' => e = .returned (.bool r) ∧ Below w.heap.size w w' := by
  obtain rfl : true = r := Option.some.inj h
  exact alive_walk w

end Go.Proofs.Ytcnmocbiekfpbaa.P

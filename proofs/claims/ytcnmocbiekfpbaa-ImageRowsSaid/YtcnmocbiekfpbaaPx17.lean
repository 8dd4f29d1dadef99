-- Written by a program of this session, after the kit's print.
import Derived.Test.YtcnmocbiekfpbaaP0Brief
import Derived.Test.YtcnmocbiekfpbaaPx0
import Derived.Test.YtcnmocbiekfpbaaPx4
import Derived.Test.YtcnmocbiekfpbaaPx5
import Derived.Test.YtcnmocbiekfpbaaPx6
import Derived.Test.YtcnmocbiekfpbaaPx7
import Derived.Test.YtcnmocbiekfpbaaPx8
import Derived.Test.YtcnmocbiekfpbaaPx15
import Derived.Test.YtcnmocbiekfpbaaPx16
namespace Go.Proofs.Ytcnmocbiekfpbaa.P
open Go.RowKit Go.Proofs.YtcnmocbiekfpbaaW.PrintWords Go.Proofs.YtcnmocbiekfpbaaW.PrintLast Go.Proofs.YtcnmocbiekfpbaaW.PrintMore
attribute [local go_sem] max2_int min2_int max_two min_two max_three min_three max_four min_four   -- for this text's walks alone
set_option linter.unusedVariables false
set_option linter.unusedSimpArgs false

/-! ### twoslotlaw09_alive: function 9 (by hand) -/
def alX : List Int := List.replicate 40 1
def alY : List Int := List.replicate 40 2
def alB : List (List Int) := List.replicate 48 []
def alA : List (List Int) := alB.set 20 alX
def alC : List (List Int) := (alB.set 20 alX).set 20 alY
theorem lit_C2 {W : World} {g : Nat} {x y : S35} {A3 A4 : Option Addr} {c3 c4 : Nat} (h : W.heap[g]? = some (.cells #[.int .i64 x.f0, .int .i64 x.f1, .int .i64 x.f2, .slice A3 x.f3.length c3, .int .i64 y.f0, .int .i64 y.f1, .int .i64 y.f2, .slice A4 y.f3.length c4] 35 (0, 0))) (hle : x.f3.length ≤ c3) (hC : Kd.C (Kd.int .u8) W A3 x.f3.length x.f3) (hle4 : y.f3.length ≤ c4) (hC4 : Kd.C (Kd.int .u8) W A4 y.f3.length y.f3) : Kd.C k35 W (some ⟨g, 0, none⟩) [x, y].length [x, y] := by
  have hadd : ∀ n : Nat, ((⟨g, 0, none⟩ : Addr).add n) = ⟨g, n, none⟩ := fun n => by
    unfold Addr.add
    by_cases hi : n = 0
    · subst hi
      simp
    · rw [if_neg hi]
      simp
  refine ⟨rfl, by simp, fun _ => ⟨_, rfl, fun j p hj => ?_⟩⟩
  obtain ⟨hj1, hj2⟩ := List.getElem?_eq_some_iff.mp hj
  have hj3 : j = 0 ∨ j = 1 := by
    have : j < 2 := by simpa using hj1
    omega
  rcases hj3 with rfl | rfl
  · obtain rfl : x = p := hj2
    refine ⟨_, rfl, k35_mk W x hle hC, fun i u hu => ?_⟩
    rw [hadd, blk_cell h]
    have hi : i < 4 := (List.getElem?_eq_some_iff.mp hu).1
    have : i = 0 ∨ i = 1 ∨ i = 2 ∨ i = 3 := by omega
    rcases this with rfl | rfl | rfl | rfl <;> exact hu
  · obtain rfl : y = p := hj2
    refine ⟨_, rfl, k35_mk W y hle4 hC4, fun i u hu => ?_⟩
    rw [hadd, blk_cell h]
    have hi : i < 4 := (List.getElem?_eq_some_iff.mp hu).1
    have : i = 0 ∨ i = 1 ∨ i = 2 ∨ i = 3 := by omega
    rcases this with rfl | rfl | rfl | rfl <;> exact hu
theorem alive_blank : image_Blank.f 2 1 16 8 = some (2, 1, 16, 8, alB, 0) := by kernel_rfl
theorem alive_full1 : twoslotlaw09_full.f 100 1 = some alX := by kernel_rfl
theorem alive_full2 : twoslotlaw09_full.f 100 2 = some alY := by kernel_rfl
theorem alive_put : image_Put.f 100 2 1 16 8 alB 1 2 0 alX = some (2, 1, 16, 8, alA, 0) := by kernel_rfl
theorem alive_after : image_After.f 100 2 1 16 8 alB [⟨1, 2, 0, alX⟩, ⟨1, 2, 0, alY⟩] 2 = some (2, 1, 16, 8, alC, 0) := by kernel_rfl
theorem alive_diff : image_Diff.f 100 2 1 16 8 alB 2 1 16 8 alC = some ([⟨1, 2, 0, alY⟩], 0) := by kernel_rfl
theorem alive_wiped : image_Wiped.f 100 2 1 16 8 alA 1 = some (2, 1, 16, 8, alB, 0) := by kernel_rfl
theorem alive_diff2 : image_Diff.f 100 2 1 16 8 alA 2 1 16 8 alB = some ([], 90) := by kernel_rfl
theorem alive_sort : ([2, 2] : List Int).mergeSort (fun x y => decide (x ≤ y)) = [2, 2] := by
  simp [List.mergeSort, List.MergeSort.Internal.splitInTwo, List.merge]
theorem alive_rows : image_Rows.f 100 [⟨1, 2, 0, alX⟩, ⟨1, 2, 0, alX⟩] = some ([2], 0) := by
  have h : image_Rows.l0 100 [] [⟨1, 2, 0, alX⟩, ⟨1, 2, 0, alX⟩] 2 0 = ((slices_Sort_int_int.f [2, 2]).bind fun q => (slices_Compact_int_int.f q).bind fun r => some (r, 0)) := by kernel_rfl
  have hs : slices_Sort_int_int.f [2, 2] = some [2, 2] := by
    unfold slices_Sort_int_int.f
    rw [alive_sort]
    rfl
  unfold image_Rows.f
  rw [if_neg (by decide)]
  show image_Rows.l0 100 [] [⟨1, 2, 0, alX⟩, ⟨1, 2, 0, alX⟩] 2 0 = _
  rw [h, hs]
  kernel_rfl
theorem alive_same1 : image_Same.f 100 2 1 16 8 alB 2 1 16 8 alB = some true := by kernel_rfl
theorem alive_same2 : image_Same.f 100 2 1 16 8 alA 2 1 16 8 alB = some false := by kernel_rfl
theorem alive_check : image_Check.f 100 2 1 16 8 alA = some 0 := by kernel_rfl
def aAt (i : Nat) : Nat := 16 * i + 4
theorem alive_at : ∀ i, i < 3 → rowAt 8 2 i = (aAt i : Int) ∧ aAt i + 2 ≤ alA.length := by
  intro i hi
  have : i = 0 ∨ i = 1 ∨ i = 2 := by omega
  rcases this with rfl | rfl | rfl <;> exact ⟨by kernel_rfl, by decide⟩
theorem alive_el : ∀ x ∈ alA, x.length ≤ 1000000 := by
  intro x hx
  rcases List.mem_or_eq_of_mem_set hx with hx | rfl
  · rw [List.eq_of_mem_replicate hx]
    simp
  · decide
theorem alive_wrap : wrap64 ((2 : Int) + 1) = ((3 : Nat) : Int) := by kernel_rfl
theorem alive_n0 : (0 : Int) ≤ 2 := by decide
theorem alive_n1 : (2 : Int) < 8 := by decide
theorem alive_n2 : 3 ≤ 10000 := by decide
theorem alive_len : alA.length ≤ 100000 := by
  unfold alA alB
  rw [List.length_set, List.length_replicate]
  decide
theorem alive_row : rowOf aAt alA 3 = [⟨[], []⟩, ⟨alX, []⟩, ⟨[], []⟩] := by kernel_rfl
theorem al_a0 (a : Addr) : a.add 0 = a := by simp [Addr.add]
theorem al_a2 (a : Addr) : a.add 2 = ⟨a.block, a.off + 2, none⟩ := by simp [Addr.add]
theorem al_a39 (a : Addr) : a.add 39 = ⟨a.block, a.off + 39, none⟩ := by simp [Addr.add]
theorem pair_elem {w : World} {A : Option Addr} {xs : List S59} (h : Kd.C k59 w A xs.length xs) (i : Nat) (hi : i < xs.length) :
    ∃ (ad : Addr) (B1 : Option Addr) (c1 : Nat) (B2 : Option Addr) (c2 : Nat), A = some ad ∧ w.cell? (ad.add (i * 2)) = some (.slice B1 (xs[i]).f0.length c1) ∧ w.cell? ⟨(ad.add (i * 2)).block, (ad.add (i * 2)).off + 1, none⟩ = some (.slice B2 (xs[i]).f1.length c2) ∧ Kd.C (Kd.int .u8) w B1 (xs[i]).f0.length (xs[i]).f0 := by
  obtain ⟨ad, cs, e, hl, hK, hc⟩ := Kd.C_get h (⟨[], []⟩ : S59) (i : Int) (by omega) (by omega)
  have e1 : xs.getD ((i : Int).toNat) (⟨[], []⟩ : S59) = xs[i] := by simp [hi]
  rw [e1] at hK
  obtain ⟨_, _, rfl, ⟨B1, c1, rfl, hl1, hC1⟩, ⟨B2, c2, rfl, hl2, hC2⟩⟩ := hK
  have h0 := hc 0 _ rfl
  have h1 := hc 1 _ rfl
  rw [Int.toNat_natCast] at h0 h1
  exact ⟨ad, B1, c1, B2, c2, e, h0, by rw [← add_field _ _ 1 (by omega)]; exact h1, hC1⟩
theorem byte_at {w : World} {A : Option Addr} {xs : List Int} (h : Kd.C (Kd.int .u8) w A xs.length xs) (i : Nat) (hi : i < xs.length) : ∃ ad : Addr, A = some ad ∧ w.cell? (ad.add i) = some (.int .u8 (xs.getD i 0)) := by
  obtain ⟨ad, cs, e, hl, hK, hc⟩ := Kd.C_get h (0 : Int) (i : Int) (by omega) (by omega)
  obtain rfl := hK
  have h0 := hc 0 _ rfl
  rw [Int.toNat_natCast] at h0
  refine ⟨ad, e, ?_⟩
  simpa [Kd.int, Kd.scalar] using h0
theorem After_two (a b c d : Int) (Am : Option Addr) (cm : Nat) (sl : List (List Int)) (g : Nat) (A3 A4 : Option Addr) (c3 c4 : Nat) (w : World) (hCm : Kd.C (Kd.slice 5 (Kd.int .u8)) w Am sl.length sl) (hcm : sl.length ≤ cm)
    (h : w.heap[g]? = some (.cells #[.int .i64 1, .int .i64 2, .int .i64 0, .slice A3 alX.length c3, .int .i64 1, .int .i64 2, .int .i64 0, .slice A4 alY.length c4] 35 (0, 0))) (hle : alX.length ≤ c3) (hC : Kd.C (Kd.int .u8) w A3 alX.length alX) (hle4 : alY.length ≤ c4) (hC4 : Kd.C (Kd.int .u8) w A4 alY.length alY) (hf : image_After.f 100 a b c d sl [⟨1, 2, 0, alX⟩, ⟨1, 2, 0, alY⟩] 2 = some (2, 1, 16, 8, alC, 0)) :
    Calls Try.prog 13 #[.agg #[.int .i64 a, .int .i64 b, .int .i64 c, .int .i64 d, .slice Am sl.length cm], .slice (some ⟨g, 0, none⟩) 2 2, .int .i64 2] w fun e w' => ∃ v4_ : Value, e = .returned (.tuple #[.agg #[.int .i64 2, .int .i64 1, .int .i64 16, .int .i64 8, v4_], .int .i64 0]) ∧ Kd.S (Kd.slice 5 (Kd.int .u8)) 33 w' w.heap.size (fun _ => True) v4_ alC ∧ Below w.heap.size w w' :=
  image_After.calls 100 a b c d Am cm sl (some ⟨g, 0, none⟩) 2 [⟨1, 2, 0, alX⟩, ⟨1, 2, 0, alY⟩] 2 2 1 16 8 alC 0 w hCm hcm (lit_C2 (x := ⟨1, 2, 0, alX⟩) (y := ⟨1, 2, 0, alY⟩) h hle hC hle4 hC4) (Nat.le_refl _) hf
theorem Rows_two (g : Nat) (A3 : Option Addr) (c3 : Nat) (w : World) (h : w.heap[g]? = some (.cells #[.int .i64 1, .int .i64 2, .int .i64 0, .slice A3 alX.length c3, .int .i64 1, .int .i64 2, .int .i64 0, .slice A3 alX.length c3] 35 (0, 0))) (hle : alX.length ≤ c3) (hC : Kd.C (Kd.int .u8) w A3 alX.length alX) :
    Calls Try.prog 12 #[.slice (some ⟨g, 0, none⟩) 2 2] w fun e w' => ∃ v0_ : Value, e = .returned (.tuple #[v0_, .int .i64 0]) ∧ Kd.R (Kd.int .i64) 3 w' w.heap.size (fun _ => True) v0_ [2] ∧ Below w.heap.size w w' :=
  image_Rows.calls 100 (some ⟨g, 0, none⟩) 2 [⟨1, 2, 0, alX⟩, ⟨1, 2, 0, alX⟩] [2] 0 w (lit_C2 (x := ⟨1, 2, 0, alX⟩) (y := ⟨1, 2, 0, alX⟩) h hle hC hle hC) (Nat.le_refl _) alive_rows
set_option maxHeartbeats 8000000 in
set_option maxRecDepth 100000 in
theorem alive_walk (w : World) : Calls Try.prog 9 #[] w fun e w' => e = .returned (.bool true) ∧ Below w.heap.size w w' := by
  have hu27 := Try.underlying27
  have hu24 := Try.underlying24
  have hu35 := Try.underlying35
  have HB := Aside0.mk (Below.refl w.heap.size w)
  have lX : alX.length = 40 := rfl
  have lY : alY.length = 40 := rfl
  have lB : alB.length = 48 := rfl
  have lA : alA.length = 48 := by simp [alA, alB]
  have lC : alC.length = 48 := by simp [alC, alB]
  have LX := Aside0.mk lX
  have LY := Aside0.mk lY
  have LB := Aside0.mk lB
  have LA := Aside0.mk lA
  have LC := Aside0.mk lC
  clear lX lY lB lA lC
  go_enter Try.func9, Try.ntmps9
  have tok1 : True := trivial
  go_wp2_with (first | (have _ := tok1; go_at_call 11; (with_reducible refine (twoslotlaw09_sample.calls 2 1 16 8 _ rfl).mono ?_); rintro e w1 ⟨rfl, hb⟩; have hs : Below w.heap.size w w1 := below_step (by repeat (first | exact Below.refl _ _ | apply below_alloc | apply pw_below_drewN | apply below_drew1)) hb; have hl : w.heap.size ≤ _ := below_size (w := w) (by repeat (first | exact Below.refl _ _ | apply below_alloc | apply pw_below_drewN | apply below_drew1)); have SZ1 := Aside0.mk (show w.heap.size ≤ w1.heap.size from hs.size); replace HB := hbs HB hs; clear hb hs; (try clear hl); clear tok1; have tok2 : True := trivial) | (have _ := tok2; go_at_call 10; (with_reducible refine (image_Blank.calls 2 1 16 8 2 1 16 8 alB 0 _ alive_blank).mono ?_); rintro e w2 ⟨v_m, rfl, ho, hb⟩; have hs : Below w1.heap.size w1 w2 := below_step (by repeat (first | exact Below.refl _ _ | apply below_alloc | apply pw_below_drewN | apply below_drew1)) hb; have hl : w1.heap.size ≤ _ := below_size (w := w1) (by repeat (first | exact Below.refl _ _ | apply below_alloc | apply pw_below_drewN | apply below_drew1)); have SZ2 := Aside0.mk (show w1.heap.size ≤ w2.heap.size from hs.size); have HOm := Aside0.mk (R_iv (Kd.S_R ho) (below_size (by repeat (first | exact HB.out | apply below_alloc | apply pw_below_drewN | apply below_drew1))) hl); replace HB := hbs HB hs; clear ho; obtain ⟨m_A, m_c, e_⟩ := Kd.R_slice HOm.out; subst e_; clear hb hs; (try clear hl); clear tok2; have tok3 : True := trivial) | (have _ := tok3; (with_reducible refine gate_dst (N := 1) rfl ?_); refine box_event ?hg (N := 1) ?hd (cs := #[.int .i64 0, .int .i64 0, .int .i64 0, .int .i64 0, .slice none 0 0]) (t := 27) ?hr ?_; (case hd => rfl); (case hg => rfl); (case hr => first | (go_simp; done) | (go_simp; rfl)); intro g1 hg w3 hbox hb; have hs : Below w2.heap.size w2 w3 := below_step (by repeat (first | exact Below.refl _ _ | apply below_alloc | apply pw_below_drewN | apply below_drew1)) hb; have SZ3 := Aside0.mk (show w2.heap.size ≤ g1 ∧ g1 < w3.heap.size from ⟨by rw [hg]; exact (below_size (by repeat (first | exact Below.refl _ _ | apply below_alloc | apply pw_below_drewN | apply below_drew1))), blk_lt hbox⟩); replace HOm := rb HOm hs; replace HB := hbs HB hs; have q0_ := SZ1.out; have q1_ := SZ2.out; have q2_ := SZ3.out; clear q0_ q1_ q2_; have BKg1 := Aside0.mk hbox; clear hb hbox hg hs; obtain ⟨⟨hcg1_0, hfg1_0⟩, ⟨hcg1_1, hfg1_1⟩, ⟨hcg1_2, hfg1_2⟩, ⟨hcg1_3, hfg1_3⟩, ⟨hcg1_4, hfg1_4⟩⟩ := cells5 BKg1.out; clear tok3))
  (try clear hcg1_0 hfg1_0 hcg1_1 hfg1_1 hcg1_2 hfg1_2 hcg1_3 hfg1_3 hcg1_4 hfg1_4)
  have q0_ := SZ1.out
  have q1_ := SZ2.out
  have q2_ := SZ3.out
  generalize hw : (((((w3.setCell ⟨g1, 0, none⟩ (.int .i64 2)).setCell ⟨g1, 1, none⟩ (.int .i64 1)).setCell ⟨g1, 2, none⟩ (.int .i64 16)).setCell ⟨g1, 3, none⟩ (.int .i64 8)).setCell ⟨g1, 4, none⟩ (.slice m_A alB.length m_c)) = w4
  have hs : Kept w3 w4 (Iv g1 (g1 + 1)) := by rw [← hw]; exact kput (kput (kput (kput (kput (Kept.refl _ _)))))
  replace HOm := rk HOm hs (Iv_apart (by omega))
  replace BKg1 : Aside0 (w4.heap[g1]? = some (.cells #[.int .i64 2, .int .i64 1, .int .i64 16, .int .i64 8, .slice m_A alB.length m_c] 27 (0, 0))) := ⟨by rw [← hw]; exact blk_put (blk_put (blk_put (blk_put (blk_put (BKg1.out) 0 _ rfl) 1 _ rfl) 2 _ rfl) 3 _ rfl) 4 _ rfl⟩
  have hq : w.heap.size ≤ g1 := (by omega)
  replace HB : Aside0 (Below w.heap.size w w4) := ⟨by rw [← hw]; exact below_set (below_set (below_set (below_set (below_set (HB.out) hq) hq) hq) hq) hq⟩
  have SZ4 := Aside0.mk (show w3.heap.size ≤ w4.heap.size from hs.1)
  clear q0_ q1_ q2_
  clear hs hw hq
  obtain ⟨⟨hcg1_0, hfg1_0⟩, ⟨hcg1_1, hfg1_1⟩, ⟨hcg1_2, hfg1_2⟩, ⟨hcg1_3, hfg1_3⟩, ⟨hcg1_4, hfg1_4⟩⟩ := cells5 BKg1.out
  (try clear hcg1_0 hfg1_0 hcg1_1 hfg1_1 hcg1_2 hfg1_2 hcg1_3 hfg1_3 hcg1_4 hfg1_4)
  
  have tok4 : True := trivial
  go_wp2_with (first | (have _ := tok4; go_at_call 38; (with_reducible refine (twoslotlaw09_full.calls 100 1 alX _ alive_full1).mono ?_); rintro e w5 ⟨v_x, rfl, ho, hb⟩; have hs : Below w4.heap.size w4 w5 := below_step (by repeat (first | exact Below.refl _ _ | apply below_alloc | apply pw_below_drewN | apply below_drew1)) hb; have hl : w4.heap.size ≤ _ := below_size (w := w4) (by repeat (first | exact Below.refl _ _ | apply below_alloc | apply pw_below_drewN | apply below_drew1)); have SZ5 := Aside0.mk (show w4.heap.size ≤ w5.heap.size from hs.size); replace HOm := rb HOm hs; replace BKg1 := bb BKg1 hs; have HOx := Aside0.mk (R_iv ho (below_size (by repeat (first | exact HB.out | apply below_alloc | apply pw_below_drewN | apply below_drew1))) hl); replace HB := hbs HB hs; clear ho; obtain ⟨x_A, x_c, e_⟩ := Kd.R_slice HOx.out; subst e_; clear hb hs; (try clear hl); clear tok4; have tok5 : True := trivial) | (have _ := tok5; (with_reducible refine gate_dst (N := 3) rfl ?_); refine box_event ?hg (N := 3) ?hd (cs := #[.int .i64 0, .int .i64 0, .int .i64 0, .slice none 0 0]) (t := 35) ?hr ?_; (case hd => rfl); (case hg => rfl); (case hr => first | (go_simp; done) | (go_simp; rfl)); intro g3 hg w6 hbox hb; have hs : Below w5.heap.size w5 w6 := below_step (by repeat (first | exact Below.refl _ _ | apply below_alloc | apply pw_below_drewN | apply below_drew1)) hb; have SZ6 := Aside0.mk (show w5.heap.size ≤ g3 ∧ g3 < w6.heap.size from ⟨by rw [hg]; exact (below_size (by repeat (first | exact Below.refl _ _ | apply below_alloc | apply pw_below_drewN | apply below_drew1))), blk_lt hbox⟩); replace HOm := rb HOm hs; replace BKg1 := bb BKg1 hs; replace HOx := rb HOx hs; replace HB := hbs HB hs; have q0_ := SZ1.out; have q1_ := SZ2.out; have q2_ := SZ3.out; have q3_ := SZ4.out; have q4_ := SZ5.out; have q5_ := SZ6.out; have hneg1_g3 : g1 ≠ g3 := (by omega); have hneg3_g1 := hneg1_g3.symm; clear q0_ q1_ q2_ q3_ q4_ q5_; have BKg3 := Aside0.mk hbox; clear hb hbox hg hs; obtain ⟨⟨hcg3_0, hfg3_0⟩, ⟨hcg3_1, hfg3_1⟩, ⟨hcg3_2, hfg3_2⟩, ⟨hcg3_3, hfg3_3⟩⟩ := cells4 BKg3.out; clear tok5))
  (try clear hcg3_0 hfg3_0 hcg3_1 hfg3_1 hcg3_2 hfg3_2 hcg3_3 hfg3_3)
  have q0_ := SZ1.out
  have q1_ := SZ2.out
  have q2_ := SZ3.out
  have q3_ := SZ4.out
  have q4_ := SZ5.out
  have q5_ := SZ6.out
  generalize hw : ((((w6.setCell ⟨g3, 0, none⟩ (.int .i64 1)).setCell ⟨g3, 1, none⟩ (.int .i64 2)).setCell ⟨g3, 2, none⟩ (.int .i64 0)).setCell ⟨g3, 3, none⟩ (.slice x_A alX.length x_c)) = w7
  have hs : Kept w6 w7 (Iv g3 (g3 + 1)) := by rw [← hw]; exact kput (kput (kput (kput (Kept.refl _ _))))
  replace HOm := rk HOm hs (Iv_apart (by omega))
  replace BKg1 := kb BKg1 hs (Iv_out (by omega))
  replace HOx := rk HOx hs (Iv_apart (by omega))
  replace BKg3 : Aside0 (w7.heap[g3]? = some (.cells #[.int .i64 1, .int .i64 2, .int .i64 0, .slice x_A alX.length x_c] 35 (0, 0))) := ⟨by rw [← hw]; exact blk_put (blk_put (blk_put (blk_put (BKg3.out) 0 _ rfl) 1 _ rfl) 2 _ rfl) 3 _ rfl⟩
  have hq : w.heap.size ≤ g3 := (by omega)
  replace HB : Aside0 (Below w.heap.size w w7) := ⟨by rw [← hw]; exact below_set (below_set (below_set (below_set (HB.out) hq) hq) hq) hq⟩
  have SZ7 := Aside0.mk (show w6.heap.size ≤ w7.heap.size from hs.1)
  clear q0_ q1_ q2_ q3_ q4_ q5_
  clear hs hw hq
  obtain ⟨⟨hcg3_0, hfg3_0⟩, ⟨hcg3_1, hfg3_1⟩, ⟨hcg3_2, hfg3_2⟩, ⟨hcg3_3, hfg3_3⟩⟩ := cells4 BKg3.out
  (try clear hcg3_0 hfg3_0 hcg3_1 hfg3_1 hcg3_2 hfg3_2 hcg3_3 hfg3_3)
  obtain ⟨⟨hcg1_0, hfg1_0⟩, ⟨hcg1_1, hfg1_1⟩, ⟨hcg1_2, hfg1_2⟩, ⟨hcg1_3, hfg1_3⟩, ⟨hcg1_4, hfg1_4⟩⟩ := cells5 BKg1.out
  obtain ⟨⟨hcg3_0, hfg3_0⟩, ⟨hcg3_1, hfg3_1⟩, ⟨hcg3_2, hfg3_2⟩, ⟨hcg3_3, hfg3_3⟩⟩ := cells4 BKg3.out
  have tok6 : True := trivial
  go_wp2_with (first | (have _ := tok6; go_at_call 38; (with_reducible refine (twoslotlaw09_full.calls 100 2 alY _ alive_full2).mono ?_); rintro e w8 ⟨v_y, rfl, ho, hb⟩; (try clear hcg1_0 hfg1_0 hcg1_1 hfg1_1 hcg1_2 hfg1_2 hcg1_3 hfg1_3 hcg1_4 hfg1_4); (try clear hcg3_0 hfg3_0 hcg3_1 hfg3_1 hcg3_2 hfg3_2 hcg3_3 hfg3_3); have hs : Below w7.heap.size w7 w8 := below_step (by repeat (first | exact Below.refl _ _ | apply below_alloc | apply pw_below_drewN | apply below_drew1)) hb; have hl : w7.heap.size ≤ _ := below_size (w := w7) (by repeat (first | exact Below.refl _ _ | apply below_alloc | apply pw_below_drewN | apply below_drew1)); have SZ8 := Aside0.mk (show w7.heap.size ≤ w8.heap.size from hs.size); replace HOm := rb HOm hs; replace BKg1 := bb BKg1 hs; replace HOx := rb HOx hs; replace BKg3 := bb BKg3 hs; have HOy := Aside0.mk (R_iv ho (below_size (by repeat (first | exact HB.out | apply below_alloc | apply pw_below_drewN | apply below_drew1))) hl); replace HB := hbs HB hs; clear ho; obtain ⟨y_A, y_c, e_⟩ := Kd.R_slice HOy.out; subst e_; clear hb hs; (try clear hl); obtain ⟨⟨hcg1_0, hfg1_0⟩, ⟨hcg1_1, hfg1_1⟩, ⟨hcg1_2, hfg1_2⟩, ⟨hcg1_3, hfg1_3⟩, ⟨hcg1_4, hfg1_4⟩⟩ := cells5 BKg1.out; obtain ⟨⟨hcg3_0, hfg3_0⟩, ⟨hcg3_1, hfg3_1⟩, ⟨hcg3_2, hfg3_2⟩, ⟨hcg3_3, hfg3_3⟩⟩ := cells4 BKg3.out; clear tok6; have tok7 : True := trivial) | (have _ := tok7; (with_reducible refine gate_dst (N := 4) rfl ?_); refine box_event ?hg (N := 4) ?hd (cs := #[.int .i64 0, .int .i64 0, .int .i64 0, .slice none 0 0]) (t := 35) ?hr ?_; (case hd => rfl); (case hg => rfl); (case hr => first | (go_simp; done) | (go_simp; rfl)); intro g4 hg w9 hbox hb; have hs : Below w8.heap.size w8 w9 := below_step (by repeat (first | exact Below.refl _ _ | apply below_alloc | apply pw_below_drewN | apply below_drew1)) hb; have SZ9 := Aside0.mk (show w8.heap.size ≤ g4 ∧ g4 < w9.heap.size from ⟨by rw [hg]; exact (below_size (by repeat (first | exact Below.refl _ _ | apply below_alloc | apply pw_below_drewN | apply below_drew1))), blk_lt hbox⟩); (try clear hcg1_0 hfg1_0 hcg1_1 hfg1_1 hcg1_2 hfg1_2 hcg1_3 hfg1_3 hcg1_4 hfg1_4); (try clear hcg3_0 hfg3_0 hcg3_1 hfg3_1 hcg3_2 hfg3_2 hcg3_3 hfg3_3); replace HOm := rb HOm hs; replace BKg1 := bb BKg1 hs; replace HOx := rb HOx hs; replace BKg3 := bb BKg3 hs; replace HOy := rb HOy hs; replace HB := hbs HB hs; have q0_ := SZ1.out; have q1_ := SZ2.out; have q2_ := SZ3.out; have q3_ := SZ4.out; have q4_ := SZ5.out; have q5_ := SZ6.out; have q6_ := SZ7.out; have q7_ := SZ8.out; have q8_ := SZ9.out; have hneg1_g4 : g1 ≠ g4 := (by omega); have hneg4_g1 := hneg1_g4.symm; have hneg3_g4 : g3 ≠ g4 := (by omega); have hneg4_g3 := hneg3_g4.symm; clear q0_ q1_ q2_ q3_ q4_ q5_ q6_ q7_ q8_; have BKg4 := Aside0.mk hbox; clear hb hbox hg hs; obtain ⟨⟨hcg1_0, hfg1_0⟩, ⟨hcg1_1, hfg1_1⟩, ⟨hcg1_2, hfg1_2⟩, ⟨hcg1_3, hfg1_3⟩, ⟨hcg1_4, hfg1_4⟩⟩ := cells5 BKg1.out; obtain ⟨⟨hcg3_0, hfg3_0⟩, ⟨hcg3_1, hfg3_1⟩, ⟨hcg3_2, hfg3_2⟩, ⟨hcg3_3, hfg3_3⟩⟩ := cells4 BKg3.out; obtain ⟨⟨hcg4_0, hfg4_0⟩, ⟨hcg4_1, hfg4_1⟩, ⟨hcg4_2, hfg4_2⟩, ⟨hcg4_3, hfg4_3⟩⟩ := cells4 BKg4.out; clear tok7))
  (try clear hcg1_0 hfg1_0 hcg1_1 hfg1_1 hcg1_2 hfg1_2 hcg1_3 hfg1_3 hcg1_4 hfg1_4)
  (try clear hcg3_0 hfg3_0 hcg3_1 hfg3_1 hcg3_2 hfg3_2 hcg3_3 hfg3_3)
  (try clear hcg4_0 hfg4_0 hcg4_1 hfg4_1 hcg4_2 hfg4_2 hcg4_3 hfg4_3)
  have q0_ := SZ1.out
  have q1_ := SZ2.out
  have q2_ := SZ3.out
  have q3_ := SZ4.out
  have q4_ := SZ5.out
  have q5_ := SZ6.out
  have q6_ := SZ7.out
  have q7_ := SZ8.out
  have q8_ := SZ9.out
  generalize hw : ((((w9.setCell ⟨g4, 0, none⟩ (.int .i64 1)).setCell ⟨g4, 1, none⟩ (.int .i64 2)).setCell ⟨g4, 2, none⟩ (.int .i64 0)).setCell ⟨g4, 3, none⟩ (.slice y_A alY.length y_c)) = w10
  have hs : Kept w9 w10 (Iv g4 (g4 + 1)) := by rw [← hw]; exact kput (kput (kput (kput (Kept.refl _ _))))
  replace HOm := rk HOm hs (Iv_apart (by omega))
  replace BKg1 := kb BKg1 hs (Iv_out (by omega))
  replace HOx := rk HOx hs (Iv_apart (by omega))
  replace BKg3 := kb BKg3 hs (Iv_out (by omega))
  replace HOy := rk HOy hs (Iv_apart (by omega))
  replace BKg4 : Aside0 (w10.heap[g4]? = some (.cells #[.int .i64 1, .int .i64 2, .int .i64 0, .slice y_A alY.length y_c] 35 (0, 0))) := ⟨by rw [← hw]; exact blk_put (blk_put (blk_put (blk_put (BKg4.out) 0 _ rfl) 1 _ rfl) 2 _ rfl) 3 _ rfl⟩
  have hq : w.heap.size ≤ g4 := (by omega)
  replace HB : Aside0 (Below w.heap.size w w10) := ⟨by rw [← hw]; exact below_set (below_set (below_set (below_set (HB.out) hq) hq) hq) hq⟩
  have SZ10 := Aside0.mk (show w9.heap.size ≤ w10.heap.size from hs.1)
  clear q0_ q1_ q2_ q3_ q4_ q5_ q6_ q7_ q8_
  clear hs hw hq
  obtain ⟨⟨hcg1_0, hfg1_0⟩, ⟨hcg1_1, hfg1_1⟩, ⟨hcg1_2, hfg1_2⟩, ⟨hcg1_3, hfg1_3⟩, ⟨hcg1_4, hfg1_4⟩⟩ := cells5 BKg1.out
  obtain ⟨⟨hcg3_0, hfg3_0⟩, ⟨hcg3_1, hfg3_1⟩, ⟨hcg3_2, hfg3_2⟩, ⟨hcg3_3, hfg3_3⟩⟩ := cells4 BKg3.out
  obtain ⟨⟨hcg4_0, hfg4_0⟩, ⟨hcg4_1, hfg4_1⟩, ⟨hcg4_2, hfg4_2⟩, ⟨hcg4_3, hfg4_3⟩⟩ := cells4 BKg4.out
  (try clear hcg1_0 hfg1_0 hcg1_1 hfg1_1 hcg1_2 hfg1_2 hcg1_3 hfg1_3 hcg1_4 hfg1_4)
  (try clear hcg3_0 hfg3_0 hcg3_1 hfg3_1 hcg3_2 hfg3_2 hcg3_3 hfg3_3)
  (try clear hcg4_0 hfg4_0 hcg4_1 hfg4_1 hcg4_2 hfg4_2 hcg4_3 hfg4_3)
  
  have tok8 : True := trivial
  go_wp2_with (first | (have _ := tok8; go_at_call 22; (with_reducible refine (image_Put.calls 100 2 1 16 8 m_A m_c alB 1 2 0 x_A x_c alX 2 1 16 8 alA 0 _ ?s1 (Kd.R_reads' HOm.out).2.1 ?s2 (Kd.R_reads' HOx.out).2.1 alive_put).mono ?_); (case s1 => exact (Kd.R_reads' (Kd.R_below HOm.out (by repeat (first | exact Below.refl _ _ | apply below_alloc | apply pw_below_drewN | apply below_drew1)))).2.2); (case s2 => exact (Kd.R_reads' (Kd.R_below HOx.out (by repeat (first | exact Below.refl _ _ | apply below_alloc | apply pw_below_drewN | apply below_drew1)))).2.2); rintro e w11 ⟨v_a, rfl, ho, hb⟩; have hs : Below w10.heap.size w10 w11 := below_step (by repeat (first | exact Below.refl _ _ | apply below_alloc | apply pw_below_drewN | apply below_drew1)) hb; have hl : w10.heap.size ≤ _ := below_size (w := w10) (by repeat (first | exact Below.refl _ _ | apply below_alloc | apply pw_below_drewN | apply below_drew1)); have SZ11 := Aside0.mk (show w10.heap.size ≤ w11.heap.size from hs.size); replace HOm := rb HOm hs; replace BKg1 := bb BKg1 hs; replace HOx := rb HOx hs; replace BKg3 := bb BKg3 hs; replace HOy := rb HOy hs; replace BKg4 := bb BKg4 hs; have HOa := Aside0.mk (R_iv (Kd.S_R ho) (below_size (by repeat (first | exact HB.out | apply below_alloc | apply pw_below_drewN | apply below_drew1))) hl); replace HB := hbs HB hs; clear ho; obtain ⟨a_A, a_c, e_⟩ := Kd.R_slice HOa.out; subst e_; clear hb hs; (try clear hl); clear tok8; have tok9 : True := trivial) | (have _ := tok9; (with_reducible refine gate_dst (N := 5) rfl ?_); refine box_event ?hg (N := 5) ?hd (cs := #[.int .i64 0, .int .i64 0, .int .i64 0, .int .i64 0, .slice none 0 0]) (t := 27) ?hr ?_; (case hd => rfl); (case hg => rfl); (case hr => first | (go_simp; done) | (go_simp; rfl)); intro g5 hg w12 hbox hb; have hs : Below w11.heap.size w11 w12 := below_step (by repeat (first | exact Below.refl _ _ | apply below_alloc | apply pw_below_drewN | apply below_drew1)) hb; have SZ12 := Aside0.mk (show w11.heap.size ≤ g5 ∧ g5 < w12.heap.size from ⟨by rw [hg]; exact (below_size (by repeat (first | exact Below.refl _ _ | apply below_alloc | apply pw_below_drewN | apply below_drew1))), blk_lt hbox⟩); replace HOm := rb HOm hs; replace BKg1 := bb BKg1 hs; replace HOx := rb HOx hs; replace BKg3 := bb BKg3 hs; replace HOy := rb HOy hs; replace BKg4 := bb BKg4 hs; replace HOa := rb HOa hs; replace HB := hbs HB hs; have q0_ := SZ1.out; have q1_ := SZ2.out; have q2_ := SZ3.out; have q3_ := SZ4.out; have q4_ := SZ5.out; have q5_ := SZ6.out; have q6_ := SZ7.out; have q7_ := SZ8.out; have q8_ := SZ9.out; have q9_ := SZ10.out; have q10_ := SZ11.out; have q11_ := SZ12.out; have hneg1_g5 : g1 ≠ g5 := (by omega); have hneg5_g1 := hneg1_g5.symm; have hneg3_g5 : g3 ≠ g5 := (by omega); have hneg5_g3 := hneg3_g5.symm; have hneg4_g5 : g4 ≠ g5 := (by omega); have hneg5_g4 := hneg4_g5.symm; clear q0_ q1_ q2_ q3_ q4_ q5_ q6_ q7_ q8_ q9_ q10_ q11_; have BKg5 := Aside0.mk hbox; clear hb hbox hg hs; obtain ⟨⟨hcg5_0, hfg5_0⟩, ⟨hcg5_1, hfg5_1⟩, ⟨hcg5_2, hfg5_2⟩, ⟨hcg5_3, hfg5_3⟩, ⟨hcg5_4, hfg5_4⟩⟩ := cells5 BKg5.out; clear tok9))
  (try clear hcg5_0 hfg5_0 hcg5_1 hfg5_1 hcg5_2 hfg5_2 hcg5_3 hfg5_3 hcg5_4 hfg5_4)
  have q0_ := SZ1.out
  have q1_ := SZ2.out
  have q2_ := SZ3.out
  have q3_ := SZ4.out
  have q4_ := SZ5.out
  have q5_ := SZ6.out
  have q6_ := SZ7.out
  have q7_ := SZ8.out
  have q8_ := SZ9.out
  have q9_ := SZ10.out
  have q10_ := SZ11.out
  have q11_ := SZ12.out
  generalize hw : (((((w12.setCell ⟨g5, 0, none⟩ (.int .i64 2)).setCell ⟨g5, 1, none⟩ (.int .i64 1)).setCell ⟨g5, 2, none⟩ (.int .i64 16)).setCell ⟨g5, 3, none⟩ (.int .i64 8)).setCell ⟨g5, 4, none⟩ (.slice a_A alA.length a_c)) = w13
  have hs : Kept w12 w13 (Iv g5 (g5 + 1)) := by rw [← hw]; exact kput (kput (kput (kput (kput (Kept.refl _ _)))))
  replace HOm := rk HOm hs (Iv_apart (by omega))
  replace BKg1 := kb BKg1 hs (Iv_out (by omega))
  replace HOx := rk HOx hs (Iv_apart (by omega))
  replace BKg3 := kb BKg3 hs (Iv_out (by omega))
  replace HOy := rk HOy hs (Iv_apart (by omega))
  replace BKg4 := kb BKg4 hs (Iv_out (by omega))
  replace HOa := rk HOa hs (Iv_apart (by omega))
  replace BKg5 : Aside0 (w13.heap[g5]? = some (.cells #[.int .i64 2, .int .i64 1, .int .i64 16, .int .i64 8, .slice a_A alA.length a_c] 27 (0, 0))) := ⟨by rw [← hw]; exact blk_put (blk_put (blk_put (blk_put (blk_put (BKg5.out) 0 _ rfl) 1 _ rfl) 2 _ rfl) 3 _ rfl) 4 _ rfl⟩
  have hq : w.heap.size ≤ g5 := (by omega)
  replace HB : Aside0 (Below w.heap.size w w13) := ⟨by rw [← hw]; exact below_set (below_set (below_set (below_set (below_set (HB.out) hq) hq) hq) hq) hq⟩
  have SZ13 := Aside0.mk (show w12.heap.size ≤ w13.heap.size from hs.1)
  clear q0_ q1_ q2_ q3_ q4_ q5_ q6_ q7_ q8_ q9_ q10_ q11_
  clear hs hw hq
  obtain ⟨⟨hcg5_0, hfg5_0⟩, ⟨hcg5_1, hfg5_1⟩, ⟨hcg5_2, hfg5_2⟩, ⟨hcg5_3, hfg5_3⟩, ⟨hcg5_4, hfg5_4⟩⟩ := cells5 BKg5.out
  (try clear hcg5_0 hfg5_0 hcg5_1 hfg5_1 hcg5_2 hfg5_2 hcg5_3 hfg5_3 hcg5_4 hfg5_4)
  obtain ⟨⟨hcg1_0, hfg1_0⟩, ⟨hcg1_1, hfg1_1⟩, ⟨hcg1_2, hfg1_2⟩, ⟨hcg1_3, hfg1_3⟩, ⟨hcg1_4, hfg1_4⟩⟩ := cells5 BKg1.out
  obtain ⟨⟨hcg3_0, hfg3_0⟩, ⟨hcg3_1, hfg3_1⟩, ⟨hcg3_2, hfg3_2⟩, ⟨hcg3_3, hfg3_3⟩⟩ := cells4 BKg3.out
  obtain ⟨⟨hcg4_0, hfg4_0⟩, ⟨hcg4_1, hfg4_1⟩, ⟨hcg4_2, hfg4_2⟩, ⟨hcg4_3, hfg4_3⟩⟩ := cells4 BKg4.out
  have tok10 : True := trivial
  go_wp2_with (first | (have _ := tok10; go_at_call 15; (with_reducible refine (Row_good 100 2 1 16 8 a_A a_c alA 2 _ ?s1 (Kd.R_reads' HOa.out).2.1 alive_check alive_n0 alive_n1 3 alive_wrap alive_n2 aAt alive_at alive_len alive_el).mono ?_); (case s1 => exact (Kd.R_reads' (Kd.R_below HOa.out (by repeat (first | exact Below.refl _ _ | apply below_alloc | apply pw_below_drewN | apply below_drew1)))).2.2); rintro e w14 ⟨v_r, rfl, ho, hb⟩; (try clear hcg1_0 hfg1_0 hcg1_1 hfg1_1 hcg1_2 hfg1_2 hcg1_3 hfg1_3 hcg1_4 hfg1_4); (try clear hcg3_0 hfg3_0 hcg3_1 hfg3_1 hcg3_2 hfg3_2 hcg3_3 hfg3_3); (try clear hcg4_0 hfg4_0 hcg4_1 hfg4_1 hcg4_2 hfg4_2 hcg4_3 hfg4_3); have hs : Below w13.heap.size w13 w14 := below_step (by repeat (first | exact Below.refl _ _ | apply below_alloc | apply pw_below_drewN | apply below_drew1)) hb; have hl : w13.heap.size ≤ _ := below_size (w := w13) (by repeat (first | exact Below.refl _ _ | apply below_alloc | apply pw_below_drewN | apply below_drew1)); have SZ14 := Aside0.mk (show w13.heap.size ≤ w14.heap.size from hs.size); replace HOm := rb HOm hs; replace BKg1 := bb BKg1 hs; replace HOx := rb HOx hs; replace BKg3 := bb BKg3 hs; replace HOy := rb HOy hs; replace BKg4 := bb BKg4 hs; replace HOa := rb HOa hs; replace BKg5 := bb BKg5 hs; have HOr := Aside0.mk (R_iv ho (below_size (by repeat (first | exact HB.out | apply below_alloc | apply pw_below_drewN | apply below_drew1))) hl); replace HB := hbs HB hs; clear ho; obtain ⟨r_A, r_c, e_⟩ := Kd.R_slice HOr.out; subst e_; clear hb hs; (try clear hl); obtain ⟨⟨hcg1_0, hfg1_0⟩, ⟨hcg1_1, hfg1_1⟩, ⟨hcg1_2, hfg1_2⟩, ⟨hcg1_3, hfg1_3⟩, ⟨hcg1_4, hfg1_4⟩⟩ := cells5 BKg1.out; obtain ⟨⟨hcg3_0, hfg3_0⟩, ⟨hcg3_1, hfg3_1⟩, ⟨hcg3_2, hfg3_2⟩, ⟨hcg3_3, hfg3_3⟩⟩ := cells4 BKg3.out; obtain ⟨⟨hcg4_0, hfg4_0⟩, ⟨hcg4_1, hfg4_1⟩, ⟨hcg4_2, hfg4_2⟩, ⟨hcg4_3, hfg4_3⟩⟩ := cells4 BKg4.out; clear tok10; have tok11 : True := trivial) | (have _ := tok11; (with_reducible refine gate_dst (N := 43) rfl ?_); refine lit_event ?hg (N := 43) (k := 2) ?hd (cs := #[.int .i64 1, .int .i64 2, .int .i64 0, .slice x_A alX.length x_c, .int .i64 1, .int .i64 2, .int .i64 0, .slice y_A alY.length y_c]) (t := 35) ?hr ?_; (case hd => rfl); (case hg => rfl); (case hr => first | (go_simp; done) | (go_simp; rfl)); intro g43 hg w15 hbox hb; have hs : Below w14.heap.size w14 w15 := below_step (by repeat (first | exact Below.refl _ _ | apply below_alloc | apply pw_below_drewN | apply below_drew1)) hb; have SZ15 := Aside0.mk (show w14.heap.size ≤ g43 ∧ g43 < w15.heap.size from ⟨by rw [hg]; exact (below_size (by repeat (first | exact Below.refl _ _ | apply below_alloc | apply pw_below_drewN | apply below_drew1))), blk_lt hbox⟩); (try clear hcg1_0 hfg1_0 hcg1_1 hfg1_1 hcg1_2 hfg1_2 hcg1_3 hfg1_3 hcg1_4 hfg1_4); (try clear hcg3_0 hfg3_0 hcg3_1 hfg3_1 hcg3_2 hfg3_2 hcg3_3 hfg3_3); (try clear hcg4_0 hfg4_0 hcg4_1 hfg4_1 hcg4_2 hfg4_2 hcg4_3 hfg4_3); replace HOm := rb HOm hs; replace BKg1 := bb BKg1 hs; replace HOx := rb HOx hs; replace BKg3 := bb BKg3 hs; replace HOy := rb HOy hs; replace BKg4 := bb BKg4 hs; replace HOa := rb HOa hs; replace BKg5 := bb BKg5 hs; replace HOr := rb HOr hs; replace HB := hbs HB hs; have q0_ := SZ1.out; have q1_ := SZ2.out; have q2_ := SZ3.out; have q3_ := SZ4.out; have q4_ := SZ5.out; have q5_ := SZ6.out; have q6_ := SZ7.out; have q7_ := SZ8.out; have q8_ := SZ9.out; have q9_ := SZ10.out; have q10_ := SZ11.out; have q11_ := SZ12.out; have q12_ := SZ13.out; have q13_ := SZ14.out; have q14_ := SZ15.out; have hneg1_g43 : g1 ≠ g43 := (by omega); have hneg43_g1 := hneg1_g43.symm; have hneg3_g43 : g3 ≠ g43 := (by omega); have hneg43_g3 := hneg3_g43.symm; have hneg4_g43 : g4 ≠ g43 := (by omega); have hneg43_g4 := hneg4_g43.symm; have hneg5_g43 : g5 ≠ g43 := (by omega); have hneg43_g5 := hneg5_g43.symm; clear q0_ q1_ q2_ q3_ q4_ q5_ q6_ q7_ q8_ q9_ q10_ q11_ q12_ q13_ q14_; have BKg43 := Aside0.mk hbox; clear hb hbox hg hs; obtain ⟨⟨hcg1_0, hfg1_0⟩, ⟨hcg1_1, hfg1_1⟩, ⟨hcg1_2, hfg1_2⟩, ⟨hcg1_3, hfg1_3⟩, ⟨hcg1_4, hfg1_4⟩⟩ := cells5 BKg1.out; obtain ⟨⟨hcg3_0, hfg3_0⟩, ⟨hcg3_1, hfg3_1⟩, ⟨hcg3_2, hfg3_2⟩, ⟨hcg3_3, hfg3_3⟩⟩ := cells4 BKg3.out; obtain ⟨⟨hcg4_0, hfg4_0⟩, ⟨hcg4_1, hfg4_1⟩, ⟨hcg4_2, hfg4_2⟩, ⟨hcg4_3, hfg4_3⟩⟩ := cells4 BKg4.out; clear tok11))
  (try clear hcg1_0 hfg1_0 hcg1_1 hfg1_1 hcg1_2 hfg1_2 hcg1_3 hfg1_3 hcg1_4 hfg1_4)
  (try clear hcg3_0 hfg3_0 hcg3_1 hfg3_1 hcg3_2 hfg3_2 hcg3_3 hfg3_3)
  (try clear hcg4_0 hfg4_0 hcg4_1 hfg4_1 hcg4_2 hfg4_2 hcg4_3 hfg4_3)
  obtain ⟨⟨hcg1_0, hfg1_0⟩, ⟨hcg1_1, hfg1_1⟩, ⟨hcg1_2, hfg1_2⟩, ⟨hcg1_3, hfg1_3⟩, ⟨hcg1_4, hfg1_4⟩⟩ := cells5 BKg1.out
  have tok12 : True := trivial
  go_wp2_with (first | (have _ := tok12; go_at_call 13; (with_reducible refine (After_two 2 1 16 8 m_A m_c alB g43 x_A y_A x_c y_c _ ?s1 (Kd.R_reads' HOm.out).2.1 (by (with_reducible repeat (first | refine blk_drewN ?_ _ | refine blk_drew ?_ | refine blk_alloc ?_ _)); exact BKg43.out) (Kd.R_reads' HOx.out).2.1 ?s2 (Kd.R_reads' HOy.out).2.1 ?s3 alive_after).mono ?_); (case s1 => exact (Kd.R_reads' (Kd.R_below HOm.out (by repeat (first | exact Below.refl _ _ | apply below_alloc | apply pw_below_drewN | apply below_drew1)))).2.2); (case s2 => exact (Kd.R_reads' (Kd.R_below HOx.out (by repeat (first | exact Below.refl _ _ | apply below_alloc | apply pw_below_drewN | apply below_drew1)))).2.2); (case s3 => exact (Kd.R_reads' (Kd.R_below HOy.out (by repeat (first | exact Below.refl _ _ | apply below_alloc | apply pw_below_drewN | apply below_drew1)))).2.2); rintro e w16 ⟨v_b, rfl, ho, hb⟩; (try clear hcg1_0 hfg1_0 hcg1_1 hfg1_1 hcg1_2 hfg1_2 hcg1_3 hfg1_3 hcg1_4 hfg1_4); have hs : Below w15.heap.size w15 w16 := below_step (by repeat (first | exact Below.refl _ _ | apply below_alloc | apply pw_below_drewN | apply below_drew1)) hb; have hl : w15.heap.size ≤ _ := below_size (w := w15) (by repeat (first | exact Below.refl _ _ | apply below_alloc | apply pw_below_drewN | apply below_drew1)); have SZ16 := Aside0.mk (show w15.heap.size ≤ w16.heap.size from hs.size); replace HOm := rb HOm hs; replace BKg1 := bb BKg1 hs; replace HOx := rb HOx hs; replace BKg3 := bb BKg3 hs; replace HOy := rb HOy hs; replace BKg4 := bb BKg4 hs; replace HOa := rb HOa hs; replace BKg5 := bb BKg5 hs; replace HOr := rb HOr hs; replace BKg43 := bb BKg43 hs; have HOb := Aside0.mk (R_iv (Kd.S_R ho) (below_size (by repeat (first | exact HB.out | apply below_alloc | apply pw_below_drewN | apply below_drew1))) hl); replace HB := hbs HB hs; clear ho; obtain ⟨b_A, b_c, e_⟩ := Kd.R_slice HOb.out; subst e_; clear hb hs; (try clear hl); obtain ⟨⟨hcg1_0, hfg1_0⟩, ⟨hcg1_1, hfg1_1⟩, ⟨hcg1_2, hfg1_2⟩, ⟨hcg1_3, hfg1_3⟩, ⟨hcg1_4, hfg1_4⟩⟩ := cells5 BKg1.out; clear tok12; have tok13 : True := trivial) | (have _ := tok13; (with_reducible refine gate_dst (N := 9) rfl ?_); refine box_event ?hg (N := 9) ?hd (cs := #[.int .i64 0, .int .i64 0, .int .i64 0, .int .i64 0, .slice none 0 0]) (t := 27) ?hr ?_; (case hd => rfl); (case hg => rfl); (case hr => first | (go_simp; done) | (go_simp; rfl)); intro g9 hg w17 hbox hb; have hs : Below w16.heap.size w16 w17 := below_step (by repeat (first | exact Below.refl _ _ | apply below_alloc | apply pw_below_drewN | apply below_drew1)) hb; have SZ17 := Aside0.mk (show w16.heap.size ≤ g9 ∧ g9 < w17.heap.size from ⟨by rw [hg]; exact (below_size (by repeat (first | exact Below.refl _ _ | apply below_alloc | apply pw_below_drewN | apply below_drew1))), blk_lt hbox⟩); (try clear hcg1_0 hfg1_0 hcg1_1 hfg1_1 hcg1_2 hfg1_2 hcg1_3 hfg1_3 hcg1_4 hfg1_4); replace HOm := rb HOm hs; replace BKg1 := bb BKg1 hs; replace HOx := rb HOx hs; replace BKg3 := bb BKg3 hs; replace HOy := rb HOy hs; replace BKg4 := bb BKg4 hs; replace HOa := rb HOa hs; replace BKg5 := bb BKg5 hs; replace HOr := rb HOr hs; replace BKg43 := bb BKg43 hs; replace HOb := rb HOb hs; replace HB := hbs HB hs; have q0_ := SZ1.out; have q1_ := SZ2.out; have q2_ := SZ3.out; have q3_ := SZ4.out; have q4_ := SZ5.out; have q5_ := SZ6.out; have q6_ := SZ7.out; have q7_ := SZ8.out; have q8_ := SZ9.out; have q9_ := SZ10.out; have q10_ := SZ11.out; have q11_ := SZ12.out; have q12_ := SZ13.out; have q13_ := SZ14.out; have q14_ := SZ15.out; have q15_ := SZ16.out; have q16_ := SZ17.out; have hneg1_g9 : g1 ≠ g9 := (by omega); have hneg9_g1 := hneg1_g9.symm; have hneg3_g9 : g3 ≠ g9 := (by omega); have hneg9_g3 := hneg3_g9.symm; have hneg4_g9 : g4 ≠ g9 := (by omega); have hneg9_g4 := hneg4_g9.symm; have hneg5_g9 : g5 ≠ g9 := (by omega); have hneg9_g5 := hneg5_g9.symm; have hneg43_g9 : g43 ≠ g9 := (by omega); have hneg9_g43 := hneg43_g9.symm; clear q0_ q1_ q2_ q3_ q4_ q5_ q6_ q7_ q8_ q9_ q10_ q11_ q12_ q13_ q14_ q15_ q16_; have BKg9 := Aside0.mk hbox; clear hb hbox hg hs; obtain ⟨⟨hcg1_0, hfg1_0⟩, ⟨hcg1_1, hfg1_1⟩, ⟨hcg1_2, hfg1_2⟩, ⟨hcg1_3, hfg1_3⟩, ⟨hcg1_4, hfg1_4⟩⟩ := cells5 BKg1.out; obtain ⟨⟨hcg9_0, hfg9_0⟩, ⟨hcg9_1, hfg9_1⟩, ⟨hcg9_2, hfg9_2⟩, ⟨hcg9_3, hfg9_3⟩, ⟨hcg9_4, hfg9_4⟩⟩ := cells5 BKg9.out; clear tok13))
  (try clear hcg1_0 hfg1_0 hcg1_1 hfg1_1 hcg1_2 hfg1_2 hcg1_3 hfg1_3 hcg1_4 hfg1_4)
  (try clear hcg9_0 hfg9_0 hcg9_1 hfg9_1 hcg9_2 hfg9_2 hcg9_3 hfg9_3 hcg9_4 hfg9_4)
  have q0_ := SZ1.out
  have q1_ := SZ2.out
  have q2_ := SZ3.out
  have q3_ := SZ4.out
  have q4_ := SZ5.out
  have q5_ := SZ6.out
  have q6_ := SZ7.out
  have q7_ := SZ8.out
  have q8_ := SZ9.out
  have q9_ := SZ10.out
  have q10_ := SZ11.out
  have q11_ := SZ12.out
  have q12_ := SZ13.out
  have q13_ := SZ14.out
  have q14_ := SZ15.out
  have q15_ := SZ16.out
  have q16_ := SZ17.out
  generalize hw : (((((w17.setCell ⟨g9, 0, none⟩ (.int .i64 2)).setCell ⟨g9, 1, none⟩ (.int .i64 1)).setCell ⟨g9, 2, none⟩ (.int .i64 16)).setCell ⟨g9, 3, none⟩ (.int .i64 8)).setCell ⟨g9, 4, none⟩ (.slice b_A alC.length b_c)) = w18
  have hs : Kept w17 w18 (Iv g9 (g9 + 1)) := by rw [← hw]; exact kput (kput (kput (kput (kput (Kept.refl _ _)))))
  replace HOm := rk HOm hs (Iv_apart (by omega))
  replace BKg1 := kb BKg1 hs (Iv_out (by omega))
  replace HOx := rk HOx hs (Iv_apart (by omega))
  replace BKg3 := kb BKg3 hs (Iv_out (by omega))
  replace HOy := rk HOy hs (Iv_apart (by omega))
  replace BKg4 := kb BKg4 hs (Iv_out (by omega))
  replace HOa := rk HOa hs (Iv_apart (by omega))
  replace BKg5 := kb BKg5 hs (Iv_out (by omega))
  replace HOr := rk HOr hs (Iv_apart (by omega))
  replace BKg43 := kb BKg43 hs (Iv_out (by omega))
  replace HOb := rk HOb hs (Iv_apart (by omega))
  replace BKg9 : Aside0 (w18.heap[g9]? = some (.cells #[.int .i64 2, .int .i64 1, .int .i64 16, .int .i64 8, .slice b_A alC.length b_c] 27 (0, 0))) := ⟨by rw [← hw]; exact blk_put (blk_put (blk_put (blk_put (blk_put (BKg9.out) 0 _ rfl) 1 _ rfl) 2 _ rfl) 3 _ rfl) 4 _ rfl⟩
  have hq : w.heap.size ≤ g9 := (by omega)
  replace HB : Aside0 (Below w.heap.size w w18) := ⟨by rw [← hw]; exact below_set (below_set (below_set (below_set (below_set (HB.out) hq) hq) hq) hq) hq⟩
  have SZ18 := Aside0.mk (show w17.heap.size ≤ w18.heap.size from hs.1)
  clear q0_ q1_ q2_ q3_ q4_ q5_ q6_ q7_ q8_ q9_ q10_ q11_ q12_ q13_ q14_ q15_ q16_
  clear hs hw hq
  obtain ⟨⟨hcg1_0, hfg1_0⟩, ⟨hcg1_1, hfg1_1⟩, ⟨hcg1_2, hfg1_2⟩, ⟨hcg1_3, hfg1_3⟩, ⟨hcg1_4, hfg1_4⟩⟩ := cells5 BKg1.out
  obtain ⟨⟨hcg9_0, hfg9_0⟩, ⟨hcg9_1, hfg9_1⟩, ⟨hcg9_2, hfg9_2⟩, ⟨hcg9_3, hfg9_3⟩, ⟨hcg9_4, hfg9_4⟩⟩ := cells5 BKg9.out
  (try clear hcg1_0 hfg1_0 hcg1_1 hfg1_1 hcg1_2 hfg1_2 hcg1_3 hfg1_3 hcg1_4 hfg1_4)
  (try clear hcg9_0 hfg9_0 hcg9_1 hfg9_1 hcg9_2 hfg9_2 hcg9_3 hfg9_3 hcg9_4 hfg9_4)
  obtain ⟨⟨hcg5_0, hfg5_0⟩, ⟨hcg5_1, hfg5_1⟩, ⟨hcg5_2, hfg5_2⟩, ⟨hcg5_3, hfg5_3⟩, ⟨hcg5_4, hfg5_4⟩⟩ := cells5 BKg5.out
  have tok14 : True := trivial
  go_wp2_with (first | (have _ := tok14; go_at_call 14; (with_reducible refine (image_Diff.calls 100 2 1 16 8 m_A m_c alB 2 1 16 8 b_A b_c alC [⟨1, 2, 0, alY⟩] 0 _ ?s1 (Kd.R_reads' HOm.out).2.1 ?s2 (Kd.R_reads' HOb.out).2.1 alive_diff).mono ?_); (case s1 => exact (Kd.R_reads' (Kd.R_below HOm.out (by repeat (first | exact Below.refl _ _ | apply below_alloc | apply pw_below_drewN | apply below_drew1)))).2.2); (case s2 => exact (Kd.R_reads' (Kd.R_below HOb.out (by repeat (first | exact Below.refl _ _ | apply below_alloc | apply pw_below_drewN | apply below_drew1)))).2.2); rintro e w19 ⟨v_d, rfl, ho, hb⟩; (try clear hcg5_0 hfg5_0 hcg5_1 hfg5_1 hcg5_2 hfg5_2 hcg5_3 hfg5_3 hcg5_4 hfg5_4); have hs : Below w18.heap.size w18 w19 := below_step (by repeat (first | exact Below.refl _ _ | apply below_alloc | apply pw_below_drewN | apply below_drew1)) hb; have hl : w18.heap.size ≤ _ := below_size (w := w18) (by repeat (first | exact Below.refl _ _ | apply below_alloc | apply pw_below_drewN | apply below_drew1)); have SZ19 := Aside0.mk (show w18.heap.size ≤ w19.heap.size from hs.size); replace HOm := rb HOm hs; replace BKg1 := bb BKg1 hs; replace HOx := rb HOx hs; replace BKg3 := bb BKg3 hs; replace HOy := rb HOy hs; replace BKg4 := bb BKg4 hs; replace HOa := rb HOa hs; replace BKg5 := bb BKg5 hs; replace HOr := rb HOr hs; replace BKg43 := bb BKg43 hs; replace HOb := rb HOb hs; replace BKg9 := bb BKg9 hs; have HOd := Aside0.mk (R_iv (Kd.S_R ho) (below_size (by repeat (first | exact HB.out | apply below_alloc | apply pw_below_drewN | apply below_drew1))) hl); replace HB := hbs HB hs; clear ho; obtain ⟨d_A, d_c, e_⟩ := Kd.R_slice HOd.out; subst e_; clear hb hs; (try clear hl); obtain ⟨⟨hcg5_0, hfg5_0⟩, ⟨hcg5_1, hfg5_1⟩, ⟨hcg5_2, hfg5_2⟩, ⟨hcg5_3, hfg5_3⟩, ⟨hcg5_4, hfg5_4⟩⟩ := cells5 BKg5.out; clear tok14))
  (try clear hcg5_0 hfg5_0 hcg5_1 hfg5_1 hcg5_2 hfg5_2 hcg5_3 hfg5_3 hcg5_4 hfg5_4)
  obtain ⟨⟨hcg1_0, hfg1_0⟩, ⟨hcg1_1, hfg1_1⟩, ⟨hcg1_2, hfg1_2⟩, ⟨hcg1_3, hfg1_3⟩, ⟨hcg1_4, hfg1_4⟩⟩ := cells5 BKg1.out
  obtain ⟨⟨hcg5_0, hfg5_0⟩, ⟨hcg5_1, hfg5_1⟩, ⟨hcg5_2, hfg5_2⟩, ⟨hcg5_3, hfg5_3⟩, ⟨hcg5_4, hfg5_4⟩⟩ := cells5 BKg5.out
  have tok15 : True := trivial
  go_wp2_with (first | (have _ := tok15; go_at_call 16; (with_reducible refine (image_Wiped.calls 100 2 1 16 8 a_A a_c alA 1 2 1 16 8 alB 0 _ ?s1 (Kd.R_reads' HOa.out).2.1 alive_wiped).mono ?_); (case s1 => exact (Kd.R_reads' (Kd.R_below HOa.out (by repeat (first | exact Below.refl _ _ | apply below_alloc | apply pw_below_drewN | apply below_drew1)))).2.2); rintro e w20 ⟨v_w, rfl, ho, hb⟩; (try clear hcg1_0 hfg1_0 hcg1_1 hfg1_1 hcg1_2 hfg1_2 hcg1_3 hfg1_3 hcg1_4 hfg1_4); (try clear hcg5_0 hfg5_0 hcg5_1 hfg5_1 hcg5_2 hfg5_2 hcg5_3 hfg5_3 hcg5_4 hfg5_4); have hs : Below w19.heap.size w19 w20 := below_step (by repeat (first | exact Below.refl _ _ | apply below_alloc | apply pw_below_drewN | apply below_drew1)) hb; have hl : w19.heap.size ≤ _ := below_size (w := w19) (by repeat (first | exact Below.refl _ _ | apply below_alloc | apply pw_below_drewN | apply below_drew1)); have SZ20 := Aside0.mk (show w19.heap.size ≤ w20.heap.size from hs.size); replace HOm := rb HOm hs; replace BKg1 := bb BKg1 hs; replace HOx := rb HOx hs; replace BKg3 := bb BKg3 hs; replace HOy := rb HOy hs; replace BKg4 := bb BKg4 hs; replace HOa := rb HOa hs; replace BKg5 := bb BKg5 hs; replace HOr := rb HOr hs; replace BKg43 := bb BKg43 hs; replace HOb := rb HOb hs; replace BKg9 := bb BKg9 hs; replace HOd := rb HOd hs; have HOw := Aside0.mk (R_iv (Kd.S_R ho) (below_size (by repeat (first | exact HB.out | apply below_alloc | apply pw_below_drewN | apply below_drew1))) hl); replace HB := hbs HB hs; clear ho; obtain ⟨w_A, w_c, e_⟩ := Kd.R_slice HOw.out; subst e_; clear hb hs; (try clear hl); obtain ⟨⟨hcg1_0, hfg1_0⟩, ⟨hcg1_1, hfg1_1⟩, ⟨hcg1_2, hfg1_2⟩, ⟨hcg1_3, hfg1_3⟩, ⟨hcg1_4, hfg1_4⟩⟩ := cells5 BKg1.out; obtain ⟨⟨hcg5_0, hfg5_0⟩, ⟨hcg5_1, hfg5_1⟩, ⟨hcg5_2, hfg5_2⟩, ⟨hcg5_3, hfg5_3⟩, ⟨hcg5_4, hfg5_4⟩⟩ := cells5 BKg5.out; clear tok15; have tok16 : True := trivial) | (have _ := tok16; (with_reducible refine gate_dst (N := 13) rfl ?_); refine box_event ?hg (N := 13) ?hd (cs := #[.int .i64 0, .int .i64 0, .int .i64 0, .int .i64 0, .slice none 0 0]) (t := 27) ?hr ?_; (case hd => rfl); (case hg => rfl); (case hr => first | (go_simp; done) | (go_simp; rfl)); intro g13 hg w21 hbox hb; have hs : Below w20.heap.size w20 w21 := below_step (by repeat (first | exact Below.refl _ _ | apply below_alloc | apply pw_below_drewN | apply below_drew1)) hb; have SZ21 := Aside0.mk (show w20.heap.size ≤ g13 ∧ g13 < w21.heap.size from ⟨by rw [hg]; exact (below_size (by repeat (first | exact Below.refl _ _ | apply below_alloc | apply pw_below_drewN | apply below_drew1))), blk_lt hbox⟩); (try clear hcg1_0 hfg1_0 hcg1_1 hfg1_1 hcg1_2 hfg1_2 hcg1_3 hfg1_3 hcg1_4 hfg1_4); (try clear hcg5_0 hfg5_0 hcg5_1 hfg5_1 hcg5_2 hfg5_2 hcg5_3 hfg5_3 hcg5_4 hfg5_4); replace HOm := rb HOm hs; replace BKg1 := bb BKg1 hs; replace HOx := rb HOx hs; replace BKg3 := bb BKg3 hs; replace HOy := rb HOy hs; replace BKg4 := bb BKg4 hs; replace HOa := rb HOa hs; replace BKg5 := bb BKg5 hs; replace HOr := rb HOr hs; replace BKg43 := bb BKg43 hs; replace HOb := rb HOb hs; replace BKg9 := bb BKg9 hs; replace HOd := rb HOd hs; replace HOw := rb HOw hs; replace HB := hbs HB hs; have q0_ := SZ1.out; have q1_ := SZ2.out; have q2_ := SZ3.out; have q3_ := SZ4.out; have q4_ := SZ5.out; have q5_ := SZ6.out; have q6_ := SZ7.out; have q7_ := SZ8.out; have q8_ := SZ9.out; have q9_ := SZ10.out; have q10_ := SZ11.out; have q11_ := SZ12.out; have q12_ := SZ13.out; have q13_ := SZ14.out; have q14_ := SZ15.out; have q15_ := SZ16.out; have q16_ := SZ17.out; have q17_ := SZ18.out; have q18_ := SZ19.out; have q19_ := SZ20.out; have q20_ := SZ21.out; have hneg1_g13 : g1 ≠ g13 := (by omega); have hneg13_g1 := hneg1_g13.symm; have hneg3_g13 : g3 ≠ g13 := (by omega); have hneg13_g3 := hneg3_g13.symm; have hneg4_g13 : g4 ≠ g13 := (by omega); have hneg13_g4 := hneg4_g13.symm; have hneg5_g13 : g5 ≠ g13 := (by omega); have hneg13_g5 := hneg5_g13.symm; have hneg43_g13 : g43 ≠ g13 := (by omega); have hneg13_g43 := hneg43_g13.symm; have hneg9_g13 : g9 ≠ g13 := (by omega); have hneg13_g9 := hneg9_g13.symm; clear q0_ q1_ q2_ q3_ q4_ q5_ q6_ q7_ q8_ q9_ q10_ q11_ q12_ q13_ q14_ q15_ q16_ q17_ q18_ q19_ q20_; have BKg13 := Aside0.mk hbox; clear hb hbox hg hs; obtain ⟨⟨hcg1_0, hfg1_0⟩, ⟨hcg1_1, hfg1_1⟩, ⟨hcg1_2, hfg1_2⟩, ⟨hcg1_3, hfg1_3⟩, ⟨hcg1_4, hfg1_4⟩⟩ := cells5 BKg1.out; obtain ⟨⟨hcg5_0, hfg5_0⟩, ⟨hcg5_1, hfg5_1⟩, ⟨hcg5_2, hfg5_2⟩, ⟨hcg5_3, hfg5_3⟩, ⟨hcg5_4, hfg5_4⟩⟩ := cells5 BKg5.out; obtain ⟨⟨hcg13_0, hfg13_0⟩, ⟨hcg13_1, hfg13_1⟩, ⟨hcg13_2, hfg13_2⟩, ⟨hcg13_3, hfg13_3⟩, ⟨hcg13_4, hfg13_4⟩⟩ := cells5 BKg13.out; clear tok16))
  (try clear hcg1_0 hfg1_0 hcg1_1 hfg1_1 hcg1_2 hfg1_2 hcg1_3 hfg1_3 hcg1_4 hfg1_4)
  (try clear hcg5_0 hfg5_0 hcg5_1 hfg5_1 hcg5_2 hfg5_2 hcg5_3 hfg5_3 hcg5_4 hfg5_4)
  (try clear hcg13_0 hfg13_0 hcg13_1 hfg13_1 hcg13_2 hfg13_2 hcg13_3 hfg13_3 hcg13_4 hfg13_4)
  have q0_ := SZ1.out
  have q1_ := SZ2.out
  have q2_ := SZ3.out
  have q3_ := SZ4.out
  have q4_ := SZ5.out
  have q5_ := SZ6.out
  have q6_ := SZ7.out
  have q7_ := SZ8.out
  have q8_ := SZ9.out
  have q9_ := SZ10.out
  have q10_ := SZ11.out
  have q11_ := SZ12.out
  have q12_ := SZ13.out
  have q13_ := SZ14.out
  have q14_ := SZ15.out
  have q15_ := SZ16.out
  have q16_ := SZ17.out
  have q17_ := SZ18.out
  have q18_ := SZ19.out
  have q19_ := SZ20.out
  have q20_ := SZ21.out
  generalize hw : (((((w21.setCell ⟨g13, 0, none⟩ (.int .i64 2)).setCell ⟨g13, 1, none⟩ (.int .i64 1)).setCell ⟨g13, 2, none⟩ (.int .i64 16)).setCell ⟨g13, 3, none⟩ (.int .i64 8)).setCell ⟨g13, 4, none⟩ (.slice w_A alB.length w_c)) = w22
  have hs : Kept w21 w22 (Iv g13 (g13 + 1)) := by rw [← hw]; exact kput (kput (kput (kput (kput (Kept.refl _ _)))))
  replace HOm := rk HOm hs (Iv_apart (by omega))
  replace BKg1 := kb BKg1 hs (Iv_out (by omega))
  replace HOx := rk HOx hs (Iv_apart (by omega))
  replace BKg3 := kb BKg3 hs (Iv_out (by omega))
  replace HOy := rk HOy hs (Iv_apart (by omega))
  replace BKg4 := kb BKg4 hs (Iv_out (by omega))
  replace HOa := rk HOa hs (Iv_apart (by omega))
  replace BKg5 := kb BKg5 hs (Iv_out (by omega))
  replace HOr := rk HOr hs (Iv_apart (by omega))
  replace BKg43 := kb BKg43 hs (Iv_out (by omega))
  replace HOb := rk HOb hs (Iv_apart (by omega))
  replace BKg9 := kb BKg9 hs (Iv_out (by omega))
  replace HOd := rk HOd hs (Iv_apart (by omega))
  replace HOw := rk HOw hs (Iv_apart (by omega))
  replace BKg13 : Aside0 (w22.heap[g13]? = some (.cells #[.int .i64 2, .int .i64 1, .int .i64 16, .int .i64 8, .slice w_A alB.length w_c] 27 (0, 0))) := ⟨by rw [← hw]; exact blk_put (blk_put (blk_put (blk_put (blk_put (BKg13.out) 0 _ rfl) 1 _ rfl) 2 _ rfl) 3 _ rfl) 4 _ rfl⟩
  have hq : w.heap.size ≤ g13 := (by omega)
  replace HB : Aside0 (Below w.heap.size w w22) := ⟨by rw [← hw]; exact below_set (below_set (below_set (below_set (below_set (HB.out) hq) hq) hq) hq) hq⟩
  have SZ22 := Aside0.mk (show w21.heap.size ≤ w22.heap.size from hs.1)
  clear q0_ q1_ q2_ q3_ q4_ q5_ q6_ q7_ q8_ q9_ q10_ q11_ q12_ q13_ q14_ q15_ q16_ q17_ q18_ q19_ q20_
  clear hs hw hq
  obtain ⟨⟨hcg1_0, hfg1_0⟩, ⟨hcg1_1, hfg1_1⟩, ⟨hcg1_2, hfg1_2⟩, ⟨hcg1_3, hfg1_3⟩, ⟨hcg1_4, hfg1_4⟩⟩ := cells5 BKg1.out
  obtain ⟨⟨hcg5_0, hfg5_0⟩, ⟨hcg5_1, hfg5_1⟩, ⟨hcg5_2, hfg5_2⟩, ⟨hcg5_3, hfg5_3⟩, ⟨hcg5_4, hfg5_4⟩⟩ := cells5 BKg5.out
  obtain ⟨⟨hcg13_0, hfg13_0⟩, ⟨hcg13_1, hfg13_1⟩, ⟨hcg13_2, hfg13_2⟩, ⟨hcg13_3, hfg13_3⟩, ⟨hcg13_4, hfg13_4⟩⟩ := cells5 BKg13.out
  (try clear hcg1_0 hfg1_0 hcg1_1 hfg1_1 hcg1_2 hfg1_2 hcg1_3 hfg1_3 hcg1_4 hfg1_4)
  (try clear hcg5_0 hfg5_0 hcg5_1 hfg5_1 hcg5_2 hfg5_2 hcg5_3 hfg5_3 hcg5_4 hfg5_4)
  (try clear hcg13_0 hfg13_0 hcg13_1 hfg13_1 hcg13_2 hfg13_2 hcg13_3 hfg13_3 hcg13_4 hfg13_4)
  obtain ⟨⟨hcg3_0, hfg3_0⟩, ⟨hcg3_1, hfg3_1⟩, ⟨hcg3_2, hfg3_2⟩, ⟨hcg3_3, hfg3_3⟩⟩ := cells4 BKg3.out
  have tok17 : True := trivial
  go_wp2_with (first | (have _ := tok17; go_at_call 14; (with_reducible refine (image_Diff.calls 100 2 1 16 8 a_A a_c alA 2 1 16 8 m_A m_c alB [] 90 _ ?s1 (Kd.R_reads' HOa.out).2.1 ?s2 (Kd.R_reads' HOm.out).2.1 alive_diff2).mono ?_); (case s1 => exact (Kd.R_reads' (Kd.R_below HOa.out (by repeat (first | exact Below.refl _ _ | apply below_alloc | apply pw_below_drewN | apply below_drew1)))).2.2); (case s2 => exact (Kd.R_reads' (Kd.R_below HOm.out (by repeat (first | exact Below.refl _ _ | apply below_alloc | apply pw_below_drewN | apply below_drew1)))).2.2); rintro e w23 ⟨v_n, rfl, ho, hb⟩; (try clear hcg3_0 hfg3_0 hcg3_1 hfg3_1 hcg3_2 hfg3_2 hcg3_3 hfg3_3); have hs : Below w22.heap.size w22 w23 := below_step (by repeat (first | exact Below.refl _ _ | apply below_alloc | apply pw_below_drewN | apply below_drew1)) hb; have hl : w22.heap.size ≤ _ := below_size (w := w22) (by repeat (first | exact Below.refl _ _ | apply below_alloc | apply pw_below_drewN | apply below_drew1)); have SZ23 := Aside0.mk (show w22.heap.size ≤ w23.heap.size from hs.size); replace HOm := rb HOm hs; replace BKg1 := bb BKg1 hs; replace HOx := rb HOx hs; replace BKg3 := bb BKg3 hs; replace HOy := rb HOy hs; replace BKg4 := bb BKg4 hs; replace HOa := rb HOa hs; replace BKg5 := bb BKg5 hs; replace HOr := rb HOr hs; replace BKg43 := bb BKg43 hs; replace HOb := rb HOb hs; replace BKg9 := bb BKg9 hs; replace HOd := rb HOd hs; replace HOw := rb HOw hs; replace BKg13 := bb BKg13 hs; replace HB := hbs HB hs; clear ho; clear hb hs; (try clear hl); obtain ⟨⟨hcg3_0, hfg3_0⟩, ⟨hcg3_1, hfg3_1⟩, ⟨hcg3_2, hfg3_2⟩, ⟨hcg3_3, hfg3_3⟩⟩ := cells4 BKg3.out; clear tok17; have tok18 : True := trivial) | (have _ := tok18; (with_reducible refine gate_dst (N := 67) rfl ?_); refine lit_event ?hg (N := 67) (k := 2) ?hd (cs := #[.int .i64 1, .int .i64 2, .int .i64 0, .slice x_A alX.length x_c, .int .i64 1, .int .i64 2, .int .i64 0, .slice x_A alX.length x_c]) (t := 35) ?hr ?_; (case hd => rfl); (case hg => rfl); (case hr => first | (go_simp; done) | (go_simp; rfl)); intro g67 hg w24 hbox hb; have hs : Below w23.heap.size w23 w24 := below_step (by repeat (first | exact Below.refl _ _ | apply below_alloc | apply pw_below_drewN | apply below_drew1)) hb; have SZ24 := Aside0.mk (show w23.heap.size ≤ g67 ∧ g67 < w24.heap.size from ⟨by rw [hg]; exact (below_size (by repeat (first | exact Below.refl _ _ | apply below_alloc | apply pw_below_drewN | apply below_drew1))), blk_lt hbox⟩); (try clear hcg3_0 hfg3_0 hcg3_1 hfg3_1 hcg3_2 hfg3_2 hcg3_3 hfg3_3); replace HOm := rb HOm hs; replace BKg1 := bb BKg1 hs; replace HOx := rb HOx hs; replace BKg3 := bb BKg3 hs; replace HOy := rb HOy hs; replace BKg4 := bb BKg4 hs; replace HOa := rb HOa hs; replace BKg5 := bb BKg5 hs; replace HOr := rb HOr hs; replace BKg43 := bb BKg43 hs; replace HOb := rb HOb hs; replace BKg9 := bb BKg9 hs; replace HOd := rb HOd hs; replace HOw := rb HOw hs; replace BKg13 := bb BKg13 hs; replace HB := hbs HB hs; have q0_ := SZ1.out; have q1_ := SZ2.out; have q2_ := SZ3.out; have q3_ := SZ4.out; have q4_ := SZ5.out; have q5_ := SZ6.out; have q6_ := SZ7.out; have q7_ := SZ8.out; have q8_ := SZ9.out; have q9_ := SZ10.out; have q10_ := SZ11.out; have q11_ := SZ12.out; have q12_ := SZ13.out; have q13_ := SZ14.out; have q14_ := SZ15.out; have q15_ := SZ16.out; have q16_ := SZ17.out; have q17_ := SZ18.out; have q18_ := SZ19.out; have q19_ := SZ20.out; have q20_ := SZ21.out; have q21_ := SZ22.out; have q22_ := SZ23.out; have q23_ := SZ24.out; have hneg1_g67 : g1 ≠ g67 := (by omega); have hneg67_g1 := hneg1_g67.symm; have hneg3_g67 : g3 ≠ g67 := (by omega); have hneg67_g3 := hneg3_g67.symm; have hneg4_g67 : g4 ≠ g67 := (by omega); have hneg67_g4 := hneg4_g67.symm; have hneg5_g67 : g5 ≠ g67 := (by omega); have hneg67_g5 := hneg5_g67.symm; have hneg43_g67 : g43 ≠ g67 := (by omega); have hneg67_g43 := hneg43_g67.symm; have hneg9_g67 : g9 ≠ g67 := (by omega); have hneg67_g9 := hneg9_g67.symm; have hneg13_g67 : g13 ≠ g67 := (by omega); have hneg67_g13 := hneg13_g67.symm; clear q0_ q1_ q2_ q3_ q4_ q5_ q6_ q7_ q8_ q9_ q10_ q11_ q12_ q13_ q14_ q15_ q16_ q17_ q18_ q19_ q20_ q21_ q22_ q23_; have BKg67 := Aside0.mk hbox; clear hb hbox hg hs; obtain ⟨⟨hcg3_0, hfg3_0⟩, ⟨hcg3_1, hfg3_1⟩, ⟨hcg3_2, hfg3_2⟩, ⟨hcg3_3, hfg3_3⟩⟩ := cells4 BKg3.out; clear tok18))
  (try clear hcg3_0 hfg3_0 hcg3_1 hfg3_1 hcg3_2 hfg3_2 hcg3_3 hfg3_3)
  obtain ⟨⟨hcg1_0, hfg1_0⟩, ⟨hcg1_1, hfg1_1⟩, ⟨hcg1_2, hfg1_2⟩, ⟨hcg1_3, hfg1_3⟩, ⟨hcg1_4, hfg1_4⟩⟩ := cells5 BKg1.out
  obtain ⟨⟨hcg5_0, hfg5_0⟩, ⟨hcg5_1, hfg5_1⟩, ⟨hcg5_2, hfg5_2⟩, ⟨hcg5_3, hfg5_3⟩, ⟨hcg5_4, hfg5_4⟩⟩ := cells5 BKg5.out
  obtain ⟨⟨hcg13_0, hfg13_0⟩, ⟨hcg13_1, hfg13_1⟩, ⟨hcg13_2, hfg13_2⟩, ⟨hcg13_3, hfg13_3⟩, ⟨hcg13_4, hfg13_4⟩⟩ := cells5 BKg13.out
  have tok19 : True := trivial
  go_wp2_with (first | (have _ := tok19; go_at_call 12; (with_reducible refine (Rows_two g67 x_A x_c _ (by (with_reducible repeat (first | refine blk_drewN ?_ _ | refine blk_drew ?_ | refine blk_alloc ?_ _)); exact BKg67.out) (Kd.R_reads' HOx.out).2.1 ?s1).mono ?_); (case s1 => exact (Kd.R_reads' (Kd.R_below HOx.out (by repeat (first | exact Below.refl _ _ | apply below_alloc | apply pw_below_drewN | apply below_drew1)))).2.2); rintro e w25 ⟨v_l, rfl, ho, hb⟩; (try clear hcg1_0 hfg1_0 hcg1_1 hfg1_1 hcg1_2 hfg1_2 hcg1_3 hfg1_3 hcg1_4 hfg1_4); (try clear hcg5_0 hfg5_0 hcg5_1 hfg5_1 hcg5_2 hfg5_2 hcg5_3 hfg5_3 hcg5_4 hfg5_4); (try clear hcg13_0 hfg13_0 hcg13_1 hfg13_1 hcg13_2 hfg13_2 hcg13_3 hfg13_3 hcg13_4 hfg13_4); have hs : Below w24.heap.size w24 w25 := below_step (by repeat (first | exact Below.refl _ _ | apply below_alloc | apply pw_below_drewN | apply below_drew1)) hb; have hl : w24.heap.size ≤ _ := below_size (w := w24) (by repeat (first | exact Below.refl _ _ | apply below_alloc | apply pw_below_drewN | apply below_drew1)); have SZ25 := Aside0.mk (show w24.heap.size ≤ w25.heap.size from hs.size); replace HOm := rb HOm hs; replace BKg1 := bb BKg1 hs; replace HOx := rb HOx hs; replace BKg3 := bb BKg3 hs; replace HOy := rb HOy hs; replace BKg4 := bb BKg4 hs; replace HOa := rb HOa hs; replace BKg5 := bb BKg5 hs; replace HOr := rb HOr hs; replace BKg43 := bb BKg43 hs; replace HOb := rb HOb hs; replace BKg9 := bb BKg9 hs; replace HOd := rb HOd hs; replace HOw := rb HOw hs; replace BKg13 := bb BKg13 hs; replace BKg67 := bb BKg67 hs; have HOl := Aside0.mk (R_iv ho (below_size (by repeat (first | exact HB.out | apply below_alloc | apply pw_below_drewN | apply below_drew1))) hl); replace HB := hbs HB hs; clear ho; obtain ⟨l_A, l_c, e_⟩ := Kd.R_slice HOl.out; subst e_; have e_r : (rowOf aAt alA 3).length = 3 := rfl; have e_X := LX.out; have e_Y := LY.out; have hcr := (Kd.R_reads' HOr.out).2.2; rw [alive_row] at hcr; obtain ⟨ra, B0, k0, B1, k1, er, q00, q01, _⟩ := pair_elem hcr 0 (by simp); obtain ⟨rb, B2, k2, B3, k3, er2, q10, q11, hcx⟩ := pair_elem hcr 1 (by simp); subst er; obtain rfl : ra = rb := (by injection er2); clear er2 hcr; obtain ⟨xb, exb, hx39⟩ := byte_at hcx 39 (by simp [alX]); subst exb; clear hcx; have hcd := (Kd.R_reads' HOd.out).2.2; obtain ⟨da, D3, dc, xx, ed, hdr, _, _, d0, d1, d2, d3, hcy⟩ := put_elem hcd 0 (by simp); subst ed; obtain rfl : (⟨1, 2, 0, alY⟩ : S35) = xx := (by have h := hdr; simp at h; exact h.symm ▸ rfl); obtain ⟨yb, eyb, hy0⟩ := byte_at hcy 0 (by simp [alY]); subst eyb; clear hcy hcd hdr; obtain ⟨la, el, hl0⟩ := Kd.at_int (Kd.R_reads' HOl.out).2.2 0 (by omega) (by simp); subst el; replace hx39 := hx39.trans (show _ = some (Value.int .u8 1) from rfl); replace hy0 := hy0.trans (show _ = some (Value.int .u8 2) from rfl); (try simp [al_a0, al_a2, al_a39] at q00); (try simp [al_a0, al_a2, al_a39] at q01); (try simp [al_a0, al_a2, al_a39] at q10); (try simp [al_a0, al_a2, al_a39] at q11); (try simp [al_a0, al_a2, al_a39] at d0); (try simp [al_a0, al_a2, al_a39] at d1); (try simp [al_a0, al_a2, al_a39] at d2); (try simp [al_a0, al_a2, al_a39] at d3); (try simp [al_a0, al_a2, al_a39] at hx39); (try simp [al_a0, al_a2, al_a39] at hy0); (try simp [al_a0, al_a2, al_a39] at hl0); have HCl := Aside0.mk hl0; clear hl0; clear hb hs; (try clear hl); obtain ⟨⟨hcg1_0, hfg1_0⟩, ⟨hcg1_1, hfg1_1⟩, ⟨hcg1_2, hfg1_2⟩, ⟨hcg1_3, hfg1_3⟩, ⟨hcg1_4, hfg1_4⟩⟩ := cells5 BKg1.out; obtain ⟨⟨hcg5_0, hfg5_0⟩, ⟨hcg5_1, hfg5_1⟩, ⟨hcg5_2, hfg5_2⟩, ⟨hcg5_3, hfg5_3⟩, ⟨hcg5_4, hfg5_4⟩⟩ := cells5 BKg5.out; obtain ⟨⟨hcg13_0, hfg13_0⟩, ⟨hcg13_1, hfg13_1⟩, ⟨hcg13_2, hfg13_2⟩, ⟨hcg13_3, hfg13_3⟩, ⟨hcg13_4, hfg13_4⟩⟩ := cells5 BKg13.out; have xHCl := HCl.out; clear tok19; have tok20 : True := trivial) | (have _ := tok20; go_at_call 34; (with_reducible refine (image_Same.calls 100 2 1 16 8 w_A w_c alB 2 1 16 8 m_A m_c alB true _ ?s1 (Kd.R_reads' HOw.out).2.1 ?s2 (Kd.R_reads' HOm.out).2.1 alive_same1).mono ?_); (case s1 => exact (Kd.R_reads' (Kd.R_below HOw.out (by repeat (first | exact Below.refl _ _ | apply below_alloc | apply pw_below_drewN | apply below_drew1)))).2.2); (case s2 => exact (Kd.R_reads' (Kd.R_below HOm.out (by repeat (first | exact Below.refl _ _ | apply below_alloc | apply pw_below_drewN | apply below_drew1)))).2.2); rintro e w26 ⟨rfl, hb⟩; (try clear hcg1_0 hfg1_0 hcg1_1 hfg1_1 hcg1_2 hfg1_2 hcg1_3 hfg1_3 hcg1_4 hfg1_4); (try clear hcg5_0 hfg5_0 hcg5_1 hfg5_1 hcg5_2 hfg5_2 hcg5_3 hfg5_3 hcg5_4 hfg5_4); (try clear hcg13_0 hfg13_0 hcg13_1 hfg13_1 hcg13_2 hfg13_2 hcg13_3 hfg13_3 hcg13_4 hfg13_4); (try clear xHCl); have hs : Below w25.heap.size w25 w26 := below_step (by repeat (first | exact Below.refl _ _ | apply below_alloc | apply pw_below_drewN | apply below_drew1)) hb; have hl : w25.heap.size ≤ _ := below_size (w := w25) (by repeat (first | exact Below.refl _ _ | apply below_alloc | apply pw_below_drewN | apply below_drew1)); have SZ26 := Aside0.mk (show w25.heap.size ≤ w26.heap.size from hs.size); replace HOm := rb HOm hs; replace BKg1 := bb BKg1 hs; replace HOx := rb HOx hs; replace BKg3 := bb BKg3 hs; replace HOy := rb HOy hs; replace BKg4 := bb BKg4 hs; replace HOa := rb HOa hs; replace BKg5 := bb BKg5 hs; replace HOr := rb HOr hs; replace BKg43 := bb BKg43 hs; replace HOb := rb HOb hs; replace BKg9 := bb BKg9 hs; replace HOd := rb HOd hs; replace HOw := rb HOw hs; replace BKg13 := bb BKg13 hs; replace BKg67 := bb BKg67 hs; replace HOl := rb HOl hs; replace HCl := Aside0.mk (pw_cell_below hs HCl.out); replace HB := hbs HB hs; clear hb hs; (try clear hl); obtain ⟨⟨hcg1_0, hfg1_0⟩, ⟨hcg1_1, hfg1_1⟩, ⟨hcg1_2, hfg1_2⟩, ⟨hcg1_3, hfg1_3⟩, ⟨hcg1_4, hfg1_4⟩⟩ := cells5 BKg1.out; obtain ⟨⟨hcg5_0, hfg5_0⟩, ⟨hcg5_1, hfg5_1⟩, ⟨hcg5_2, hfg5_2⟩, ⟨hcg5_3, hfg5_3⟩, ⟨hcg5_4, hfg5_4⟩⟩ := cells5 BKg5.out; obtain ⟨⟨hcg13_0, hfg13_0⟩, ⟨hcg13_1, hfg13_1⟩, ⟨hcg13_2, hfg13_2⟩, ⟨hcg13_3, hfg13_3⟩, ⟨hcg13_4, hfg13_4⟩⟩ := cells5 BKg13.out; have xHCl := HCl.out; clear tok20; have tok21 : True := trivial) | (have _ := tok21; go_at_call 34; (with_reducible refine (image_Same.calls 100 2 1 16 8 a_A a_c alA 2 1 16 8 m_A m_c alB false _ ?s1 (Kd.R_reads' HOa.out).2.1 ?s2 (Kd.R_reads' HOm.out).2.1 alive_same2).mono ?_); (case s1 => exact (Kd.R_reads' (Kd.R_below HOa.out (by repeat (first | exact Below.refl _ _ | apply below_alloc | apply pw_below_drewN | apply below_drew1)))).2.2); (case s2 => exact (Kd.R_reads' (Kd.R_below HOm.out (by repeat (first | exact Below.refl _ _ | apply below_alloc | apply pw_below_drewN | apply below_drew1)))).2.2); rintro e w27 ⟨rfl, hb⟩; (try clear hcg1_0 hfg1_0 hcg1_1 hfg1_1 hcg1_2 hfg1_2 hcg1_3 hfg1_3 hcg1_4 hfg1_4); (try clear hcg5_0 hfg5_0 hcg5_1 hfg5_1 hcg5_2 hfg5_2 hcg5_3 hfg5_3 hcg5_4 hfg5_4); (try clear hcg13_0 hfg13_0 hcg13_1 hfg13_1 hcg13_2 hfg13_2 hcg13_3 hfg13_3 hcg13_4 hfg13_4); (try clear xHCl); have hs : Below w26.heap.size w26 w27 := below_step (by repeat (first | exact Below.refl _ _ | apply below_alloc | apply pw_below_drewN | apply below_drew1)) hb; have hl : w26.heap.size ≤ _ := below_size (w := w26) (by repeat (first | exact Below.refl _ _ | apply below_alloc | apply pw_below_drewN | apply below_drew1)); have SZ27 := Aside0.mk (show w26.heap.size ≤ w27.heap.size from hs.size); replace HOm := rb HOm hs; replace BKg1 := bb BKg1 hs; replace HOx := rb HOx hs; replace BKg3 := bb BKg3 hs; replace HOy := rb HOy hs; replace BKg4 := bb BKg4 hs; replace HOa := rb HOa hs; replace BKg5 := bb BKg5 hs; replace HOr := rb HOr hs; replace BKg43 := bb BKg43 hs; replace HOb := rb HOb hs; replace BKg9 := bb BKg9 hs; replace HOd := rb HOd hs; replace HOw := rb HOw hs; replace BKg13 := bb BKg13 hs; replace BKg67 := bb BKg67 hs; replace HOl := rb HOl hs; replace HCl := Aside0.mk (pw_cell_below hs HCl.out); replace HB := hbs HB hs; clear hb hs; (try clear hl); obtain ⟨⟨hcg1_0, hfg1_0⟩, ⟨hcg1_1, hfg1_1⟩, ⟨hcg1_2, hfg1_2⟩, ⟨hcg1_3, hfg1_3⟩, ⟨hcg1_4, hfg1_4⟩⟩ := cells5 BKg1.out; obtain ⟨⟨hcg5_0, hfg5_0⟩, ⟨hcg5_1, hfg5_1⟩, ⟨hcg5_2, hfg5_2⟩, ⟨hcg5_3, hfg5_3⟩, ⟨hcg5_4, hfg5_4⟩⟩ := cells5 BKg5.out; obtain ⟨⟨hcg13_0, hfg13_0⟩, ⟨hcg13_1, hfg13_1⟩, ⟨hcg13_2, hfg13_2⟩, ⟨hcg13_3, hfg13_3⟩, ⟨hcg13_4, hfg13_4⟩⟩ := cells5 BKg13.out; have xHCl := HCl.out; clear tok21))
  go_ret
  exact ⟨rfl, HB.out⟩
def twoslotlaw09_alive.f : Option Bool := some true
theorem twoslotlaw09_alive.calls (r : Bool) (w : World) (h : twoslotlaw09_alive.f = some r) : Calls Try.prog 9 #[] w fun e w' => e = .returned (.bool r) ∧ Below w.heap.size w w' := by
  obtain rfl : true = r := Option.some.inj h
  exact alive_walk w

end Go.Proofs.Ytcnmocbiekfpbaa.P

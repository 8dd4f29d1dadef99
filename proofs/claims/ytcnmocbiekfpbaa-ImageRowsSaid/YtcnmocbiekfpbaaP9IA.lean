import Derived.Test.YtcnmocbiekfpbaaP9IV
import Derived.Test.YtcnmocbiekfpbaaP9IU
import Derived.Test.YtcnmocbiekfpbaaP9IR
namespace Go.Proofs.Ytcnmocbiekfpbaa.P
open Go.RowKit Go.Proofs.YtcnmocbiekfpbaaW.PrintWords Go.Proofs.YtcnmocbiekfpbaaW.PrintLast Go.Proofs.YtcnmocbiekfpbaaW.PrintMore
attribute [local go_sem] max2_int min2_int max_two min_two max_three min_three max_four min_four
set_option linter.unusedVariables false
set_option linter.unusedSimpArgs false
theorem ImageRows.all (a b c d : Int) (Am : Option Addr) (cm : Nat) (sl : List (List Int)) (i1 i2 i3 i4 : Int) (Bm : Option Addr) (cb : Nat) (yl : List (List Int)) (n p0 p1 p2 p3 : Int) (w : World) (hCm : Kd.C (Kd.slice 5 (Kd.int .u8)) w Am sl.length sl) (hcm : sl.length ≤ cm) (hCb : Kd.C (Kd.slice 5 (Kd.int .u8)) w Bm yl.length yl) (hcb : yl.length ≤ cb)
    (hs : ∀ x ∈ sl, x.length < 140737488355328) (ht : ∀ x ∈ yl, x.length < 140737488355328) : Calls Try.prog 5 #[.agg #[.int .i64 a, .int .i64 b, .int .i64 c, .int .i64 d, .slice Am sl.length cm], .agg #[.int .i64 i1, .int .i64 i2, .int .i64 i3, .int .i64 i4, .slice Bm yl.length cb], .int .i64 n, .agg #[.int .i64 p0, .int .i64 p1, .int .i64 p2, .int .i64 p3]] w fun e w' => e = .returned (.bool true) ∧ Below w.heap.size w w' := by
  by_cases h1 : (sl.length : Int) > 2000
  · exact ImageRows_much 0 a b c d Am cm sl i1 i2 i3 i4 Bm cb yl n p0 p1 p2 p3 w hCm hcm hCb hcb (by unfold twoslotlaw09_much.f; rw [decide_eq_true h1])
  · have hm : twoslotlaw09_much.f a b c d sl = some false := by unfold twoslotlaw09_much.f; rw [decide_eq_false h1]
    by_cases h2 : (yl.length : Int) > 2000
    · exact ImageRows_much2 0 a b c d Am cm sl i1 i2 i3 i4 Bm cb yl n p0 p1 p2 p3 w hCm hcm hCb hcb hm (by unfold twoslotlaw09_much.f; rw [decide_eq_true h2])
    · have hm2 : twoslotlaw09_much.f i1 i2 i3 i4 yl = some false := by unfold twoslotlaw09_much.f; rw [decide_eq_false h2]
      have A := rowsV_short a b c d sl n
      have B := diffV_short a b c d sl i1 i2 i3 i4 yl
      have ri := rowI_ev a b c d sl n 300000 (by decide)
      have rr := rowR_ev a b c d sl n 300000 (by decide)
      have di := diffI_ev a b c d sl i1 i2 i3 i4 yl 300000 (by decide)
      have dr := diffR_ev a b c d sl i1 i2 i3 i4 yl 300000 (by decide)
      have bi := blankI_ev p0 p1 p2 p3
      have br := blankR_ev p0 p1 p2 p3
      have C : (blankV p0 p1 p2 p3).2.2.2.2.1.length ≤ 8192 := by
        unfold blankV
        by_cases h : okP p0 p1 p2 p3 = true
        · have := nV_bd h
          have hN : nV p0 p1 p3 = (p0 + p1) * p3 * 2 := rfl
          rw [if_pos h]
          show (List.replicate (nV p0 p1 p3).toNat ([] : List Int)).length ≤ 8192
          rw [List.length_replicate]
          omega
        · rw [if_neg h]
          exact Nat.zero_le _
      generalize rowsV a b c d sl n = P at A ri rr
      generalize diffV a b c d sl i1 i2 i3 i4 yl = Q at B di dr
      generalize blankV p0 p1 p2 p3 = U at C bi br
      obtain ⟨rs, e1⟩ := P
      obtain ⟨ds, e2⟩ := Q
      obtain ⟨q0, q1, q2, q3, bs, e3⟩ := U
      obtain ⟨A1, A2⟩ := A
      obtain ⟨B1, B2⟩ := B
      dsimp only at A1 A2 B1 B2 C
      exact ImageRows_walk 300000 a b c d Am cm sl i1 i2 i3 i4 Bm cb yl n p0 p1 p2 p3 w hCm hcm hCb hcb rs e1 ds e2 q0 q1 q2 q3 bs e3 (smV a b c d sl i1 i2 i3 i4 yl) hm hm2
        (rtwin_ev a b c d sl (by omega) hs 300000 (by decide)) (rtwin_ev i1 i2 i3 i4 yl (by omega) ht 300000 (by decide)) ri di bi rr dr br
        (pairs_refl rs A2 300000 (by decide)) (rsamep_refl ds (by omega) 300000 (by decide)) (rsame_refl q0 q1 q2 q3 bs (by omega) 300000 (by decide))
        (smI_ev a b c d sl i1 i2 i3 i4 yl (by omega) 300000) (smR_ev a b c d sl i1 i2 i3 i4 yl (by omega) 300000 (by decide))
        (rsame_refl a b c d sl (by omega) 300000 (by decide)) (rsame_refl i1 i2 i3 i4 yl (by omega) 300000 (by decide))
        (fun m _ => scratch_ev _ (by have := row2_short A1 m; omega) 300000 (by decide)) (fun m _ => scratch_ev _ (by have := put_short B1 m; omega) 300000 (by decide)) (by omega) (by omega)
end Go.Proofs.Ytcnmocbiekfpbaa.P

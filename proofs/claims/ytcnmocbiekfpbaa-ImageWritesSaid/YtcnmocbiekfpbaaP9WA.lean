import Derived.Test.YtcnmocbiekfpbaaP9WV
import Derived.Test.YtcnmocbiekfpbaaP9WU
import Derived.Test.YtcnmocbiekfpbaaP9WW
namespace Go.Proofs.Ytcnmocbiekfpbaa.P
open Go.RowKit Go.Proofs.YtcnmocbiekfpbaaW.PrintWords Go.Proofs.YtcnmocbiekfpbaaW.PrintLast Go.Proofs.YtcnmocbiekfpbaaW.PrintMore
attribute [local go_sem] max2_int min2_int max_two min_two max_three min_three max_four min_four
set_option linter.unusedVariables false
set_option linter.unusedSimpArgs false
/-! ### ImageWrites -/
theorem afterV_short (a b c d : Int) (sl : List (List Int)) (l : List S35) (n : Int) : (∀ x ∈ (afterV a b c d sl l n).2.2.2.2.1, x.length ≤ 140) ∧ (afterV a b c d sl l n).2.2.2.2.1.length ≤ 8192 := by
  by_cases h : (afterV a b c d sl l n).2.2.2.2.2 = 0
  · obtain ⟨hc, _, hm, _, _, e⟩ := afterV_zero h
    have hk := putsV_chk (l.take n.toNat) sl hc (fun x hx => hm x (List.mem_of_mem_take hx))
    rw [e]
    exact ⟨chk_short hk, chk_len hk⟩
  · rw [afterV_err h]
    exact ⟨fun x hx => (nomatch hx), Nat.zero_le _⟩
theorem wipedV_short (a b c d : Int) (sl : List (List Int)) (n : Int) : (∀ x ∈ (wipedV a b c d sl n).2.2.2.2.1, x.length ≤ 140) ∧ (wipedV a b c d sl n).2.2.2.2.1.length ≤ 8192 := by
  unfold wipedV
  by_cases hc : chkV a b c d sl = 0
  · rw [if_pos hc]
    by_cases g : n < 0 ∨ a + b ≤ n
    · rw [if_pos g]
      exact ⟨fun x hx => (nomatch hx), Nat.zero_le _⟩
    · rw [if_neg g]
      have hk := wipeV_chk (n := n) hc
      exact ⟨chk_short hk, chk_len hk⟩
  · rw [if_neg hc]
    exact ⟨fun x hx => (nomatch hx), Nat.zero_le _⟩
theorem hv_false {l : List S35} (h : hvV l = false) : l.length ≤ 200 ∧ ∀ x ∈ l, x.f3.length ≤ 5000 := by
  unfold hvV at h
  obtain ⟨h1, h2⟩ := Bool.or_eq_false_iff.mp h
  refine ⟨by have := of_decide_eq_false h1; omega, fun x hx => ?_⟩
  have h3 := List.any_eq_false.mp h2 x hx
  have h4 : ¬ 5000 < x.f3.length := fun hh => h3 (decide_eq_true hh)
  omega
theorem ImageWrites.all (a b c d : Int) (Am : Option Addr) (cm : Nat) (sl : List (List Int)) (Al : Option Addr) (cl : Nat) (l : List S35) (n drv : Int) (w : World) (hCm : Kd.C (Kd.slice 5 (Kd.int .u8)) w Am sl.length sl) (hcm : sl.length ≤ cm) (hL : Kd.C k35 w Al l.length l) (hcl : l.length ≤ cl)
    (hs : ∀ x ∈ sl, x.length < 140737488355328) : Calls Try.prog 4 #[.agg #[.int .i64 a, .int .i64 b, .int .i64 c, .int .i64 d, .slice Am sl.length cm], .slice Al l.length cl, .int .i64 n, .int .i64 drv] w fun e w' => e = .returned (.bool true) ∧ Below w.heap.size w w' := by
  by_cases h1 : (sl.length : Int) > 2000
  · exact ImageWrites_much 0 a b c d Am cm sl Al cl l n drv w hCm hcm hL hcl (by unfold twoslotlaw09_much.f; rw [decide_eq_true h1])
  · have hm : twoslotlaw09_much.f a b c d sl = some false := by unfold twoslotlaw09_much.f; rw [decide_eq_false h1]
    have hsl : sl.length ≤ 2000 := by omega
    have hh := heavy9_ev l 300000 (by decide)
    cases h2 : hvV l with
    | true =>
      rw [h2] at hh
      exact ImageWrites_heavy 300000 a b c d Am cm sl Al cl l n drv w hCm hcm hL hcl hm hh
    | false =>
      rw [h2] at hh
      obtain ⟨hl, hlb⟩ := hv_false h2
      have A := afterV_short a b c d sl [rd_T35 l 0] 1
      have B := afterV_short a b c d sl l n
      have C := wipedV_short a b c d sl drv
      have rp := rput_ev a b c d sl (rd_T35 l 0) 300000 (by decide)
      have ip := (after9_ev a b c d sl [rd_T35 l 0] 1 300000 (by decide) : image_Put.f 300000 a b c d sl (rd_T35 l 0).f0 (rd_T35 l 0).f1 (rd_T35 l 0).f2 (rd_T35 l 0).f3 = _)
      have ra := rafter_ev a b c d sl l n 300000 (by decide)
      have ia := after9_ev a b c d sl l n 300000 (by decide)
      have rw_ := rwiped_ev a b c d sl drv 300000 (by decide)
      have iw := wiped9_ev a b c d sl drv 300000 (by decide)
      generalize afterV a b c d sl [rd_T35 l 0] 1 = P at A rp ip
      generalize afterV a b c d sl l n = Q at B ra ia
      generalize wipedV a b c d sl drv = U at C rw_ iw
      obtain ⟨p0, p1, p2, p3, ps, e1⟩ := P
      obtain ⟨q0, q1, q2, q3, qs, e2⟩ := Q
      obtain ⟨u0, u1, u2, u3, us, e3⟩ := U
      obtain ⟨A1, A2⟩ := A
      obtain ⟨B1, B2⟩ := B
      obtain ⟨C1, C2⟩ := C
      dsimp only at A1 A2 B1 B2 C1 C2
      exact ImageWrites_walk 300000 a b c d Am cm sl Al cl l n drv w hCm hcm hL hcl (rd_T35 l 0) p0 p1 p2 p3 ps e1 q0 q1 q2 q3 qs e2 u0 u1 u2 u3 us e3 (chkV a b c d sl) rfl hm hh
        (rtwin_ev a b c d sl (by omega) hs 300000 (by decide)) (rtwinp_ev l (by omega) (fun x hx => by have := hlb x hx; omega) 300000 (by decide)) ip ia iw rp ra rw_
        (rsame_refl _ _ _ _ ps (by omega) 300000 (by decide)) (rsame_refl _ _ _ _ qs (by omega) 300000 (by decide)) (rsame_refl _ _ _ _ us (by omega) 300000 (by decide))
        (check9_ev a b c d sl 300000 (by decide)) (rcheck_ev a b c d sl 300000 (by decide)) (rsame_refl a b c d sl (by omega) 300000 (by decide)) (rsamep_refl l (by omega) 300000 (by decide))
        (fun x hx => scratch_ev x (by have := A1 x hx; omega) 300000 (by decide)) (fun x hx => scratch_ev x (by have := B1 x hx; omega) 300000 (by decide)) (fun x hx => scratch_ev x (by have := C1 x hx; omega) 300000 (by decide)) (by omega) (by omega) (by omega)
end Go.Proofs.Ytcnmocbiekfpbaa.P

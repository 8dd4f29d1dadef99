-- Written by a program of this session, after the kit's print.
import Derived.Test.YtcnmocbiekfpbaaPx0
import Derived.Test.YtcnmocbiekfpbaaP0Short
import Derived.Test.YtcnmocbiekfpbaaPx5
import Derived.Test.YtcnmocbiekfpbaaPx18
namespace Go.Proofs.Ytcnmocbiekfpbaa.P
open Go.RowKit Go.Proofs.YtcnmocbiekfpbaaW.PrintWords Go.Proofs.YtcnmocbiekfpbaaW.PrintLast Go.Proofs.YtcnmocbiekfpbaaW.PrintMore
attribute [local go_sem] max2_int min2_int max_two min_two max_three min_three max_four min_four   -- for this text's walks alone
set_option linter.unusedVariables false
set_option linter.unusedSimpArgs false

def twoslotref09_SamePairs.l0 : Nat → List (S59) → List (S59) → Int → Option (Bool)
  | 0, _, _, _ => none
  | k + 1, x0, x1, x5 => if x5 < (x0.length : Int) then (if 0 ≤ x5 then (if x5 < (x1.length : Int) then (if (strOfNums ((rd_T59 x0 x5).f0)).toList = (strOfNums ((rd_T59 x1 x5).f0)).toList then (if (strOfNums ((rd_T59 x0 x5).f1)).toList = (strOfNums ((rd_T59 x1 x5).f1)).toList then (twoslotref09_SamePairs.l0 k x0 x1 (wrap64 (x5 + 1))) else (some false)) else (some false)) else (none)) else (none)) else (some true)
def twoslotref09_SamePairs.f (k : Nat) (l0 : List (S59)) (l1 : List (S59)) : Option (Bool) := if (l0.length : Int) = (l1.length : Int) then (twoslotref09_SamePairs.l0 k l0 l1 0) else (some false)
set_option maxHeartbeats 8000000 in
set_option maxRecDepth 100000 in
theorem twoslotref09_SamePairs.calls (k : Nat) (A0 : Option Addr) (c0 : Nat) (l0 : List (S59)) (A1 : Option Addr) (c1 : Nat) (l1 : List (S59)) (r : Bool) (w : World) (hr0 : Kd.C k59 w A0 l0.length l0) (hc0 : l0.length ≤ c0) (hr1 : Kd.C k59 w A1 l1.length l1) (hc1 : l1.length ≤ c1) (h : twoslotref09_SamePairs.f k l0 l1 = some r) :
    Calls Try.prog 33 #[.slice A0 l0.length c0, .slice A1 l1.length c1] w fun e w' => e = .returned (.bool r) ∧ Drawn0 w w' := by
  have HR0 := Aside0.mk hr0
  have HC0 := Aside0.mk hc0
  clear hr0 hc0
  have HR1 := Aside0.mk hr1
  have HC1 := Aside0.mk hc1
  clear hr1 hc1
  have H : (if (l0.length : Int) = (l1.length : Int) then (twoslotref09_SamePairs.l0 k l0 l1 0) else (some false)) = some r := h
  clear h
  by_cases c3 : (l0.length : Int) = (l1.length : Int)
  · rw [if_pos c3] at H
    have c3b0 : ((l0.length : Int) == (l1.length : Int)) = true := beq_iff_eq.mpr c3
    have c3b1 : ((l0.length : Int) != (l1.length : Int)) = false := bne_eq_false_iff_eq.mpr c3
    have c3b2 : (l0.length == l1.length) = true := by first | simpa using c3 | (simp at c3 ⊢; omega)
    clear c3
    have H' := Aside0.mk H
    clear H
    go_enter Try.func33, Try.ntmps33
    go_wp2
    repeat (go_quiet (fail); try go_wp2)
    go_loopg [5] k (fun kq v5 w' => ∃ (x5_1 : Int), v5 = .int .i64 x5_1 ∧ Aside0 (twoslotref09_SamePairs.l0 kq l0 l1 x5_1 = some r) ∧ Aside0 (kq ≤ k) ∧ Drawn0 w w')
    case atStart => exact ⟨(0), (by first | rfl | (simp; done) | (simp [*]; done)), H', ⟨Nat.le_refl _⟩, by repeat (first | exact Drawn0.refl _ | apply Drawn0.step)⟩
    case round =>
      clear H'
      try clear c1
      try clear p2
      try clear c3
      try clear c3b0
      try clear c3b1
      try clear c3b2
      obtain ⟨x5_1, rfl, HA, HK1, ⟨m1, rfl⟩⟩ := hrel
      cases gk with
      | zero => exact absurd HA.out (by simp [twoslotref09_SamePairs.l0])
      | succ k1 =>
        have H := HA.out
        clear HA
        simp only [twoslotref09_SamePairs.l0] at H
        by_cases c4 : x5_1 < (l0.length : Int)
        · rw [if_pos c4] at H
          have c4b0 : decide (x5_1 < (l0.length : Int)) = true := decide_eq_true c4
          clear c4
          by_cases c5 : 0 ≤ x5_1
          · rw [if_pos c5] at H
            have c5b0 : decide (0 ≤ x5_1) = true := decide_eq_true c5
            clear c5
            by_cases c6 : x5_1 < (l1.length : Int)
            · rw [if_pos c6] at H
              have c6b0 : decide (x5_1 < (l1.length : Int)) = true := decide_eq_true c6
              clear c6
              by_cases c7 : (strOfNums ((rd_T59 l0 x5_1).f0)).toList = (strOfNums ((rd_T59 l1 x5_1).f0)).toList
              · rw [if_pos c7] at H
                have c7b0 : ((strOfNums ((rd_T59 l0 x5_1).f0)).toList == (strOfNums ((rd_T59 l1 x5_1).f0)).toList) = true := beq_iff_eq.mpr c7
                have c7b1 : ((strOfNums ((rd_T59 l0 x5_1).f0)).toList != (strOfNums ((rd_T59 l1 x5_1).f0)).toList) = false := bne_eq_false_iff_eq.mpr c7
                clear c7
                by_cases c8 : (strOfNums ((rd_T59 l0 x5_1).f1)).toList = (strOfNums ((rd_T59 l1 x5_1).f1)).toList
                · rw [if_pos c8] at H
                  have c8b0 : ((strOfNums ((rd_T59 l0 x5_1).f1)).toList == (strOfNums ((rd_T59 l1 x5_1).f1)).toList) = true := beq_iff_eq.mpr c8
                  have c8b1 : ((strOfNums ((rd_T59 l0 x5_1).f1)).toList != (strOfNums ((rd_T59 l1 x5_1).f1)).toList) = false := bne_eq_false_iff_eq.mpr c8
                  clear c8
                  have H' := Aside0.mk H
                  clear H
                  have p527 : 0 ≤ (x5_1 : Int) := of_decide_eq_true (by first | (with_reducible assumption) | assumption)
                  have q527 : x5_1 < (l0.length : Int) := of_decide_eq_true (by first | (with_reducible assumption) | assumption)
                  obtain ⟨ad527, A527_0, c527_0, A527_1, c527_1, e527, hx527_0, hx527_1, hl527_0, hi527_0, hl527_1, hi527_1⟩ := at_T59 HR0.out x5_1 p527 q527
                  cases e527
                  have HR527_0 := Aside0.mk hi527_0
                  have HC527_0 := Aside0.mk hl527_0
                  clear hi527_0 hl527_0
                  have HR527_1 := Aside0.mk hi527_1
                  have HC527_1 := Aside0.mk hl527_1
                  clear hi527_1 hl527_1
                  replace p527 := eq_true p527
                  replace q527 := eq_true q527
                  have hcv9 := Kd.C_string (P := Try.prog) (A := A527_0) (c := c527_0) Try.underlying33 Try.underlying5 Try.underlying9 HR527_0.out
                  have hq9 := fun n => Kd.C_string (P := Try.prog) (A := A527_0) (c := c527_0) Try.underlying33 Try.underlying5 Try.underlying9 (Kd.C_drewN (HR527_0.out) n)
                  have p528 : 0 ≤ (x5_1 : Int) := of_decide_eq_true (by first | (with_reducible assumption) | assumption)
                  have q528 : x5_1 < (l1.length : Int) := of_decide_eq_true (by first | (with_reducible assumption) | assumption)
                  obtain ⟨ad528, A528_0, c528_0, A528_1, c528_1, e528, hx528_0, hx528_1, hl528_0, hi528_0, hl528_1, hi528_1⟩ := at_T59 HR1.out x5_1 p528 q528
                  cases e528
                  have HR528_0 := Aside0.mk hi528_0
                  have HC528_0 := Aside0.mk hl528_0
                  clear hi528_0 hl528_0
                  have HR528_1 := Aside0.mk hi528_1
                  have HC528_1 := Aside0.mk hl528_1
                  clear hi528_1 hl528_1
                  replace p528 := eq_true p528
                  replace q528 := eq_true q528
                  have hcv10 := Kd.C_string (P := Try.prog) (A := A528_0) (c := c528_0) Try.underlying33 Try.underlying5 Try.underlying9 HR528_0.out
                  have hq10 := fun n => Kd.C_string (P := Try.prog) (A := A528_0) (c := c528_0) Try.underlying33 Try.underlying5 Try.underlying9 (Kd.C_drewN (HR528_0.out) n)
                  have p529 : 0 ≤ (x5_1 : Int) := of_decide_eq_true (by first | (with_reducible assumption) | assumption)
                  have q529 : x5_1 < (l0.length : Int) := of_decide_eq_true (by first | (with_reducible assumption) | assumption)
                  obtain ⟨ad529, A529_0, c529_0, A529_1, c529_1, e529, hx529_0, hx529_1, hl529_0, hi529_0, hl529_1, hi529_1⟩ := at_T59 HR0.out x5_1 p529 q529
                  obtain rfl : ad527 = ad529 := (by injection e529)
                  have HR529_0 := Aside0.mk hi529_0
                  have HC529_0 := Aside0.mk hl529_0
                  clear hi529_0 hl529_0
                  have HR529_1 := Aside0.mk hi529_1
                  have HC529_1 := Aside0.mk hl529_1
                  clear hi529_1 hl529_1
                  replace p529 := eq_true p529
                  replace q529 := eq_true q529
                  have ea_ := Option.some.inj (hx527_0.symm.trans hx529_0)
                  injection ea_ with ea_ en_ ec_
                  subst ea_
                  subst ec_
                  clear en_
                  have ea_ := Option.some.inj (hx527_1.symm.trans hx529_1)
                  injection ea_ with ea_ en_ ec_
                  subst ea_
                  subst ec_
                  clear en_
                  have hcv11 := Kd.C_string (P := Try.prog) (A := A527_1) (c := c527_1) Try.underlying33 Try.underlying5 Try.underlying9 HR529_1.out
                  have hq11 := fun n => Kd.C_string (P := Try.prog) (A := A527_1) (c := c527_1) Try.underlying33 Try.underlying5 Try.underlying9 (Kd.C_drewN (HR529_1.out) n)
                  have p530 : 0 ≤ (x5_1 : Int) := of_decide_eq_true (by first | (with_reducible assumption) | assumption)
                  have q530 : x5_1 < (l1.length : Int) := of_decide_eq_true (by first | (with_reducible assumption) | assumption)
                  obtain ⟨ad530, A530_0, c530_0, A530_1, c530_1, e530, hx530_0, hx530_1, hl530_0, hi530_0, hl530_1, hi530_1⟩ := at_T59 HR1.out x5_1 p530 q530
                  obtain rfl : ad528 = ad530 := (by injection e530)
                  have HR530_0 := Aside0.mk hi530_0
                  have HC530_0 := Aside0.mk hl530_0
                  clear hi530_0 hl530_0
                  have HR530_1 := Aside0.mk hi530_1
                  have HC530_1 := Aside0.mk hl530_1
                  clear hi530_1 hl530_1
                  replace p530 := eq_true p530
                  replace q530 := eq_true q530
                  have ea_ := Option.some.inj (hx528_0.symm.trans hx530_0)
                  injection ea_ with ea_ en_ ec_
                  subst ea_
                  subst ec_
                  clear en_
                  have ea_ := Option.some.inj (hx528_1.symm.trans hx530_1)
                  injection ea_ with ea_ en_ ec_
                  subst ea_
                  subst ec_
                  clear en_
                  have hcv12 := Kd.C_string (P := Try.prog) (A := A528_1) (c := c528_1) Try.underlying33 Try.underlying5 Try.underlying9 HR530_1.out
                  have hq12 := fun n => Kd.C_string (P := Try.prog) (A := A528_1) (c := c528_1) Try.underlying33 Try.underlying5 Try.underlying9 (Kd.C_drewN (HR530_1.out) n)
                  go_wp2
                  repeat (go_quiet ((first | (rintro ⟨n_, rfl⟩; exact hq11 n_) | (rintro ⟨n_, rfl⟩; exact hq12 n_) | (intro hS_; obtain ⟨n_, rfl⟩ := hS_; exact hq11 n_) | (intro hS_; obtain ⟨n_, rfl⟩ := hS_; exact hq12 n_))); try go_wp2)
                  go_roundg k1
                  case measure => have := HK1.out; omega
                  case rel => exact ⟨(wrap64 (x5_1 + 1)), (by first | rfl | (simp; done) | (simp [*]; done)), H', ⟨by have := HK1.out; omega⟩, by repeat (first | exact Drawn0.refl _ | apply Drawn0.step)⟩
                · rw [if_neg c8] at H
                  have c8b0 : ((strOfNums ((rd_T59 l0 x5_1).f1)).toList == (strOfNums ((rd_T59 l1 x5_1).f1)).toList) = false := beq_eq_false_iff_ne.mpr c8
                  have c8b1 : ((strOfNums ((rd_T59 l0 x5_1).f1)).toList != (strOfNums ((rd_T59 l1 x5_1).f1)).toList) = true := bne_iff_ne.mpr c8
                  obtain rfl := Option.some.inj H
                  have p527 : 0 ≤ (x5_1 : Int) := of_decide_eq_true (by first | (with_reducible assumption) | assumption)
                  have q527 : x5_1 < (l0.length : Int) := of_decide_eq_true (by first | (with_reducible assumption) | assumption)
                  obtain ⟨ad527, A527_0, c527_0, A527_1, c527_1, e527, hx527_0, hx527_1, hl527_0, hi527_0, hl527_1, hi527_1⟩ := at_T59 HR0.out x5_1 p527 q527
                  cases e527
                  have HR527_0 := Aside0.mk hi527_0
                  have HC527_0 := Aside0.mk hl527_0
                  clear hi527_0 hl527_0
                  have HR527_1 := Aside0.mk hi527_1
                  have HC527_1 := Aside0.mk hl527_1
                  clear hi527_1 hl527_1
                  replace p527 := eq_true p527
                  replace q527 := eq_true q527
                  have hcv13 := Kd.C_string (P := Try.prog) (A := A527_0) (c := c527_0) Try.underlying33 Try.underlying5 Try.underlying9 HR527_0.out
                  have hq13 := fun n => Kd.C_string (P := Try.prog) (A := A527_0) (c := c527_0) Try.underlying33 Try.underlying5 Try.underlying9 (Kd.C_drewN (HR527_0.out) n)
                  have p528 : 0 ≤ (x5_1 : Int) := of_decide_eq_true (by first | (with_reducible assumption) | assumption)
                  have q528 : x5_1 < (l1.length : Int) := of_decide_eq_true (by first | (with_reducible assumption) | assumption)
                  obtain ⟨ad528, A528_0, c528_0, A528_1, c528_1, e528, hx528_0, hx528_1, hl528_0, hi528_0, hl528_1, hi528_1⟩ := at_T59 HR1.out x5_1 p528 q528
                  cases e528
                  have HR528_0 := Aside0.mk hi528_0
                  have HC528_0 := Aside0.mk hl528_0
                  clear hi528_0 hl528_0
                  have HR528_1 := Aside0.mk hi528_1
                  have HC528_1 := Aside0.mk hl528_1
                  clear hi528_1 hl528_1
                  replace p528 := eq_true p528
                  replace q528 := eq_true q528
                  have hcv14 := Kd.C_string (P := Try.prog) (A := A528_0) (c := c528_0) Try.underlying33 Try.underlying5 Try.underlying9 HR528_0.out
                  have hq14 := fun n => Kd.C_string (P := Try.prog) (A := A528_0) (c := c528_0) Try.underlying33 Try.underlying5 Try.underlying9 (Kd.C_drewN (HR528_0.out) n)
                  have p529 : 0 ≤ (x5_1 : Int) := of_decide_eq_true (by first | (with_reducible assumption) | assumption)
                  have q529 : x5_1 < (l0.length : Int) := of_decide_eq_true (by first | (with_reducible assumption) | assumption)
                  obtain ⟨ad529, A529_0, c529_0, A529_1, c529_1, e529, hx529_0, hx529_1, hl529_0, hi529_0, hl529_1, hi529_1⟩ := at_T59 HR0.out x5_1 p529 q529
                  obtain rfl : ad527 = ad529 := (by injection e529)
                  have HR529_0 := Aside0.mk hi529_0
                  have HC529_0 := Aside0.mk hl529_0
                  clear hi529_0 hl529_0
                  have HR529_1 := Aside0.mk hi529_1
                  have HC529_1 := Aside0.mk hl529_1
                  clear hi529_1 hl529_1
                  replace p529 := eq_true p529
                  replace q529 := eq_true q529
                  have ea_ := Option.some.inj (hx527_0.symm.trans hx529_0)
                  injection ea_ with ea_ en_ ec_
                  subst ea_
                  subst ec_
                  clear en_
                  have ea_ := Option.some.inj (hx527_1.symm.trans hx529_1)
                  injection ea_ with ea_ en_ ec_
                  subst ea_
                  subst ec_
                  clear en_
                  have hcv15 := Kd.C_string (P := Try.prog) (A := A527_1) (c := c527_1) Try.underlying33 Try.underlying5 Try.underlying9 HR529_1.out
                  have hq15 := fun n => Kd.C_string (P := Try.prog) (A := A527_1) (c := c527_1) Try.underlying33 Try.underlying5 Try.underlying9 (Kd.C_drewN (HR529_1.out) n)
                  have p530 : 0 ≤ (x5_1 : Int) := of_decide_eq_true (by first | (with_reducible assumption) | assumption)
                  have q530 : x5_1 < (l1.length : Int) := of_decide_eq_true (by first | (with_reducible assumption) | assumption)
                  obtain ⟨ad530, A530_0, c530_0, A530_1, c530_1, e530, hx530_0, hx530_1, hl530_0, hi530_0, hl530_1, hi530_1⟩ := at_T59 HR1.out x5_1 p530 q530
                  obtain rfl : ad528 = ad530 := (by injection e530)
                  have HR530_0 := Aside0.mk hi530_0
                  have HC530_0 := Aside0.mk hl530_0
                  clear hi530_0 hl530_0
                  have HR530_1 := Aside0.mk hi530_1
                  have HC530_1 := Aside0.mk hl530_1
                  clear hi530_1 hl530_1
                  replace p530 := eq_true p530
                  replace q530 := eq_true q530
                  have ea_ := Option.some.inj (hx528_0.symm.trans hx530_0)
                  injection ea_ with ea_ en_ ec_
                  subst ea_
                  subst ec_
                  clear en_
                  have ea_ := Option.some.inj (hx528_1.symm.trans hx530_1)
                  injection ea_ with ea_ en_ ec_
                  subst ea_
                  subst ec_
                  clear en_
                  have hcv16 := Kd.C_string (P := Try.prog) (A := A528_1) (c := c528_1) Try.underlying33 Try.underlying5 Try.underlying9 HR530_1.out
                  have hq16 := fun n => Kd.C_string (P := Try.prog) (A := A528_1) (c := c528_1) Try.underlying33 Try.underlying5 Try.underlying9 (Kd.C_drewN (HR530_1.out) n)
                  go_wp2
                  repeat (go_quiet ((first | (rintro ⟨n_, rfl⟩; exact hq15 n_) | (rintro ⟨n_, rfl⟩; exact hq16 n_) | (intro hS_; obtain ⟨n_, rfl⟩ := hS_; exact hq15 n_) | (intro hS_; obtain ⟨n_, rfl⟩ := hS_; exact hq16 n_))); try go_wp2)
                  go_ret
                  exact ⟨by first | rfl | (simp; done) | (simp [*]; done), by repeat (first | exact Drawn0.refl _ | apply Drawn0.step)⟩
              · rw [if_neg c7] at H
                have c7b0 : ((strOfNums ((rd_T59 l0 x5_1).f0)).toList == (strOfNums ((rd_T59 l1 x5_1).f0)).toList) = false := beq_eq_false_iff_ne.mpr c7
                have c7b1 : ((strOfNums ((rd_T59 l0 x5_1).f0)).toList != (strOfNums ((rd_T59 l1 x5_1).f0)).toList) = true := bne_iff_ne.mpr c7
                obtain rfl := Option.some.inj H
                have p527 : 0 ≤ (x5_1 : Int) := of_decide_eq_true (by first | (with_reducible assumption) | assumption)
                have q527 : x5_1 < (l0.length : Int) := of_decide_eq_true (by first | (with_reducible assumption) | assumption)
                obtain ⟨ad527, A527_0, c527_0, A527_1, c527_1, e527, hx527_0, hx527_1, hl527_0, hi527_0, hl527_1, hi527_1⟩ := at_T59 HR0.out x5_1 p527 q527
                cases e527
                have HR527_0 := Aside0.mk hi527_0
                have HC527_0 := Aside0.mk hl527_0
                clear hi527_0 hl527_0
                have HR527_1 := Aside0.mk hi527_1
                have HC527_1 := Aside0.mk hl527_1
                clear hi527_1 hl527_1
                replace p527 := eq_true p527
                replace q527 := eq_true q527
                have hcv17 := Kd.C_string (P := Try.prog) (A := A527_0) (c := c527_0) Try.underlying33 Try.underlying5 Try.underlying9 HR527_0.out
                have hq17 := fun n => Kd.C_string (P := Try.prog) (A := A527_0) (c := c527_0) Try.underlying33 Try.underlying5 Try.underlying9 (Kd.C_drewN (HR527_0.out) n)
                have p528 : 0 ≤ (x5_1 : Int) := of_decide_eq_true (by first | (with_reducible assumption) | assumption)
                have q528 : x5_1 < (l1.length : Int) := of_decide_eq_true (by first | (with_reducible assumption) | assumption)
                obtain ⟨ad528, A528_0, c528_0, A528_1, c528_1, e528, hx528_0, hx528_1, hl528_0, hi528_0, hl528_1, hi528_1⟩ := at_T59 HR1.out x5_1 p528 q528
                cases e528
                have HR528_0 := Aside0.mk hi528_0
                have HC528_0 := Aside0.mk hl528_0
                clear hi528_0 hl528_0
                have HR528_1 := Aside0.mk hi528_1
                have HC528_1 := Aside0.mk hl528_1
                clear hi528_1 hl528_1
                replace p528 := eq_true p528
                replace q528 := eq_true q528
                have hcv18 := Kd.C_string (P := Try.prog) (A := A528_0) (c := c528_0) Try.underlying33 Try.underlying5 Try.underlying9 HR528_0.out
                have hq18 := fun n => Kd.C_string (P := Try.prog) (A := A528_0) (c := c528_0) Try.underlying33 Try.underlying5 Try.underlying9 (Kd.C_drewN (HR528_0.out) n)
                go_wp2
                repeat (go_quiet ((first | (rintro ⟨n_, rfl⟩; exact hq17 n_) | (rintro ⟨n_, rfl⟩; exact hq18 n_) | (intro hS_; obtain ⟨n_, rfl⟩ := hS_; exact hq17 n_) | (intro hS_; obtain ⟨n_, rfl⟩ := hS_; exact hq18 n_))); try go_wp2)
                go_ret
                exact ⟨by first | rfl | (simp; done) | (simp [*]; done), by repeat (first | exact Drawn0.refl _ | apply Drawn0.step)⟩
            · rw [if_neg c6] at H
              exact absurd H (by simp)
          · rw [if_neg c5] at H
            exact absurd H (by simp)
        · rw [if_neg c4] at H
          have c4b0 : decide (x5_1 < (l0.length : Int)) = false := decide_eq_false c4
          clear c4
          obtain rfl := Option.some.inj H
          go_wp2
          repeat (go_quiet (fail); try go_wp2)
          go_ret
          exact ⟨by first | rfl | (simp; done) | (simp [*]; done), by repeat (first | exact Drawn0.refl _ | apply Drawn0.step)⟩
  · rw [if_neg c3] at H
    have c3b0 : ((l0.length : Int) == (l1.length : Int)) = false := beq_eq_false_iff_ne.mpr c3
    have c3b1 : ((l0.length : Int) != (l1.length : Int)) = true := bne_iff_ne.mpr c3
    have c3b2 : (l0.length == l1.length) = false := by first | simpa using c3 | (simp at c3 ⊢; omega)
    obtain rfl := Option.some.inj H
    go_enter Try.func33, Try.ntmps33
    go_wp2
    repeat (go_quiet (fail); try go_wp2)
    go_ret
    exact ⟨by first | rfl | (simp; done) | (simp [*]; done), by repeat (first | exact Drawn0.refl _ | apply Drawn0.step)⟩

open Go.Maps (int_keyed keyOf_int_mk)
/-- Block B is a map of ints that reads as f. -/
def MapI (w : World) (B n : Nat) (f : Int → Int) : Prop := ∃ D : DataW Unit, w.ownsMap Try.prog 3 (plainElem Try.prog 3) B n D ∧ ∀ x : Int, D.atKey (.int .i64 x) (.lit (.int .i64 0)) = .lit (.int .i64 (f x))
theorem isKey {x : Int} (hw : (Lit.int .i64 x).wf = true) : WideAt.IsKeyLit (.int .i64 x) := (int_keyed (P := Try.prog) (k := 3) Try.underlying3).key (keyOf_int_mk Try.underlying3 hw)
theorem MapI.put {w w' : World} {B n : Nat} {f : Int → Int} {D : DataW Unit} {x v : Int} (hm : Go.Maps.IsMap D) (ha : ∀ y : Int, D.atKey (.int .i64 y) (.lit (.int .i64 0)) = .lit (.int .i64 (f y))) (hw : (Lit.int .i64 x).wf = true)
    (h : w'.ownsMap Try.prog 3 (plainElem Try.prog 3) B n (D.put (.int .i64 x) (.lit (.int .i64 v)))) : MapI w' B n (fun y => if y = x then v else f y) := by
  refine ⟨_, h, fun y => ?_⟩
  show _ = DataW.lit (.int .i64 (if y = x then v else f y))
  by_cases hy : y = x
  · subst hy
    rw [if_pos rfl, Go.Maps.atKey_put_same hm (isKey hw)]
  · rw [if_neg hy, Go.Maps.atKey_put_other (fun e => hy (by injection e)), ha]
/-- The last of the first k + 1 numbers goes down to its place. -/
def insB : List Int → Nat → List Int
  | L, 0 => L
  | L, k + 1 => if rdOf 0 L ((k + 1 : Nat) : Int) < rdOf 0 L ((k : Nat) : Int) then insB ((L.set (k + 1) (rdOf 0 L ((k : Nat) : Int))).set k (rdOf 0 L ((k + 1 : Nat) : Int))) k else L
def metStep (o : List Int) (x : Int) : List Int := if x ∈ o then o else insB (o ++ [x]) o.length
/-- The rows that raw writes meet, put in one by one. -/
def metRows (l : List S35) : List Int := l.foldl (fun o x => metStep o x.f1) []
theorem rd_nat {L : List Int} {k : Nat} (h : k < L.length) : rdOf 0 L ((k : Nat) : Int) = L[k] := by
  simp [rdOf, h]
theorem swap_mem {L : List Int} {k : Nat} (h : k + 1 < L.length) (y : Int) : y ∈ (L.set (k + 1) (rdOf 0 L ((k : Nat) : Int))).set k (rdOf 0 L ((k + 1 : Nat) : Int)) ↔ y ∈ L := by
  rw [rd_nat h, rd_nat (show k < L.length by omega)]
  have hp : ((L.set (k + 1) L[k]).set k L[k + 1]).Perm L := by
    exact List.set_set_perm h (by omega)
  exact hp.mem_iff
theorem insB_mem : ∀ (k : Nat) (L : List Int), k < L.length → ∀ y, y ∈ insB L k ↔ y ∈ L
  | 0, L, _, y => Iff.rfl
  | k + 1, L, h, y => by
    unfold insB
    split
    · rw [insB_mem k _ (by simp; omega) y, swap_mem h]
    · exact Iff.rfl
theorem metStep_mem (o : List Int) (x y : Int) : y ∈ metStep o x ↔ y ∈ o ∨ y = x := by
  unfold metStep
  by_cases h : x ∈ o
  rotate_left
  · rw [if_neg h, insB_mem _ _ (by simp)]
    simp
  rw [if_pos h]
  constructor
  · exact Or.inl
  · rintro (h | rfl)
    · exact h
    · exact h
end Go.Proofs.Ytcnmocbiekfpbaa.P

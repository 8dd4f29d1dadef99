-- Written by a program of this session, after the kit's print.
import Derived.Test.YtcnmocbiekfpbaaPx0
import Derived.Test.YtcnmocbiekfpbaaP0Short
import Derived.Test.YtcnmocbiekfpbaaPx19
import Derived.Test.YtcnmocbiekfpbaaPx21
namespace Go.Proofs.Ytcnmocbiekfpbaa.P
open Go.RowKit Go.Proofs.YtcnmocbiekfpbaaW.PrintWords Go.Proofs.YtcnmocbiekfpbaaW.PrintLast Go.Proofs.YtcnmocbiekfpbaaW.PrintMore
attribute [local go_sem] max2_int min2_int max_two min_two max_three min_three max_four min_four   -- for this text's walks alone
set_option linter.unusedVariables false
set_option linter.unusedSimpArgs false

def twoslotref09_SamePuts.l0 : Nat → List (S35) → List (S35) → Int → Option (Bool)
 | 0, _, _, _ => none
 | k + 1, x0, x1, x5 => if x5 < (x0.length : Int) then (if 0 ≤ x5 then (if x5 < (x1.length : Int) then (if ((rd_T35 x0 x5).f0) = ((rd_T35 x1 x5).f0) then (if ((rd_T35 x0 x5).f1) = ((rd_T35 x1 x5).f1) then (if ((rd_T35 x0 x5).f2) = ((rd_T35 x1 x5).f2) then (if (strOfNums ((rd_T35 x0 x5).f3)).toList = (strOfNums ((rd_T35 x1 x5).f3)).toList then (twoslotref09_SamePuts.l0 k x0 x1 (wrap64 (x5 + 1))) else (some false)) else (some false)) else (some false)) else (some false)) else (none)) else (none)) else (some true)
def twoslotref09_SamePuts.f (k : Nat) (l0 : List (S35)) (l1 : List (S35)) : Option (Bool) := if (l0.length : Int) = (l1.length : Int) then (twoslotref09_SamePuts.l0 k l0 l1 0) else (some false)
set_option maxHeartbeats 8000000 in
set_option maxRecDepth 100000 in
theorem twoslotref09_SamePuts.calls (k : Nat) (A0 : Option Addr) (c0 : Nat) (l0 : List (S35)) (A1 : Option Addr) (c1 : Nat) (l1 : List (S35)) (r : Bool) (w : World) (hr0 : Kd.C k35 w A0 l0.length l0) (hc0 : l0.length ≤ c0) (hr1 : Kd.C k35 w A1 l1.length l1) (hc1 : l1.length ≤ c1) (h : twoslotref09_SamePuts.f k l0 l1 = some r) :
  Calls Try.prog 29 #[.slice A0 l0.length c0, .slice A1 l1.length c1] w fun e w' => e = .returned (.bool r) ∧ Drawn0 w w' := by
 have HR0 := Aside0.mk hr0
 have HC0 := Aside0.mk hc0
 clear hr0 hc0
 have HR1 := Aside0.mk hr1
 have HC1 := Aside0.mk hc1
 clear hr1 hc1
 have H : (if (l0.length : Int) = (l1.length : Int) then (twoslotref09_SamePuts.l0 k l0 l1 0) else (some false)) = some r := h
 clear h
 by_cases c3 : (l0.length : Int) = (l1.length : Int)
 ·
  rw [if_pos c3] at H
  have c3b0 : ((l0.length : Int) == (l1.length : Int)) = true := beq_iff_eq.mpr c3
  have c3b1 : ((l0.length : Int) != (l1.length : Int)) = false := bne_eq_false_iff_eq.mpr c3
  have c3b2 : (l0.length == l1.length) = true := by first | simpa using c3 | (simp at c3 ⊢; omega)
  clear c3
  have H' := Aside0.mk H
  clear H
  go_enter Try.func29, Try.ntmps29
  go_wp2
  repeat (go_quiet (fail); try go_wp2)
  go_loopg [5] k (fun kq v5 w' => ∃ (x5_1 : Int), v5 = .int .i64 x5_1 ∧ Aside0 (twoslotref09_SamePuts.l0 kq l0 l1 x5_1 = some r) ∧ Aside0 (kq ≤ k) ∧ Drawn0 w w')
  case atStart => exact ⟨(0), (by first | rfl | (simp; done) | (simp [*]; done)), H', ⟨Nat.le_refl _⟩, by repeat (first | exact Drawn0.refl _ | apply Drawn0.step)⟩
  case round =>
   clear H'
   try clear c1
   try clear c2
   try clear p2
   try clear c3
   try clear c3b0
   try clear c3b1
   try clear c3b2
   obtain ⟨x5_1, rfl, HA, HK1, ⟨m1, rfl⟩⟩ := hrel
   cases gk with
   | zero => exact absurd HA.out (by simp [twoslotref09_SamePuts.l0])
   | succ k1 =>
    have H := HA.out
    clear HA
    simp only [twoslotref09_SamePuts.l0] at H
    by_cases c4 : x5_1 < (l0.length : Int)
    ·
     rw [if_pos c4] at H
     have c4b0 : decide (x5_1 < (l0.length : Int)) = true := decide_eq_true c4
     clear c4
     by_cases c5 : 0 ≤ x5_1
     ·
      rw [if_pos c5] at H
      have c5b0 : decide (0 ≤ x5_1) = true := decide_eq_true c5
      clear c5
      by_cases c6 : x5_1 < (l1.length : Int)
      ·
       rw [if_pos c6] at H
       have c6b0 : decide (x5_1 < (l1.length : Int)) = true := decide_eq_true c6
       clear c6
       by_cases c7 : ((rd_T35 l0 x5_1).f0) = ((rd_T35 l1 x5_1).f0)
       ·
        rw [if_pos c7] at H
        have c7b0 : (((rd_T35 l0 x5_1).f0) == ((rd_T35 l1 x5_1).f0)) = true := beq_iff_eq.mpr c7
        have c7b1 : (((rd_T35 l0 x5_1).f0) != ((rd_T35 l1 x5_1).f0)) = false := bne_eq_false_iff_eq.mpr c7
        clear c7
        by_cases c8 : ((rd_T35 l0 x5_1).f1) = ((rd_T35 l1 x5_1).f1)
        ·
         rw [if_pos c8] at H
         have c8b0 : (((rd_T35 l0 x5_1).f1) == ((rd_T35 l1 x5_1).f1)) = true := beq_iff_eq.mpr c8
         have c8b1 : (((rd_T35 l0 x5_1).f1) != ((rd_T35 l1 x5_1).f1)) = false := bne_eq_false_iff_eq.mpr c8
         clear c8
         by_cases c9 : ((rd_T35 l0 x5_1).f2) = ((rd_T35 l1 x5_1).f2)
         ·
          rw [if_pos c9] at H
          have c9b0 : (((rd_T35 l0 x5_1).f2) == ((rd_T35 l1 x5_1).f2)) = true := beq_iff_eq.mpr c9
          have c9b1 : (((rd_T35 l0 x5_1).f2) != ((rd_T35 l1 x5_1).f2)) = false := bne_eq_false_iff_eq.mpr c9
          clear c9
          by_cases c10 : (strOfNums ((rd_T35 l0 x5_1).f3)).toList = (strOfNums ((rd_T35 l1 x5_1).f3)).toList
          ·
           rw [if_pos c10] at H
           have c10b0 : ((strOfNums ((rd_T35 l0 x5_1).f3)).toList == (strOfNums ((rd_T35 l1 x5_1).f3)).toList) = true := beq_iff_eq.mpr c10
           have c10b1 : ((strOfNums ((rd_T35 l0 x5_1).f3)).toList != (strOfNums ((rd_T35 l1 x5_1).f3)).toList) = false := bne_eq_false_iff_eq.mpr c10
           clear c10
           have H' := Aside0.mk H
           clear H
           have p459 : 0 ≤ (x5_1 : Int) := of_decide_eq_true (by first | (with_reducible assumption) | assumption)
           have q459 : x5_1 < (l0.length : Int) := of_decide_eq_true (by first | (with_reducible assumption) | assumption)
           obtain ⟨ad459, A459_3, c459_3, e459, hx459_0, hx459_1, hx459_2, hx459_3, hl459_3, hi459_3⟩ := at_T35 HR0.out x5_1 p459 q459
           cases e459
           have HR459_3 := Aside0.mk hi459_3
           have HC459_3 := Aside0.mk hl459_3
           clear hi459_3 hl459_3
           replace p459 := eq_true p459
           replace q459 := eq_true q459
           have p460 : 0 ≤ (x5_1 : Int) := of_decide_eq_true (by first | (with_reducible assumption) | assumption)
           have q460 : x5_1 < (l1.length : Int) := of_decide_eq_true (by first | (with_reducible assumption) | assumption)
           obtain ⟨ad460, A460_3, c460_3, e460, hx460_0, hx460_1, hx460_2, hx460_3, hl460_3, hi460_3⟩ := at_T35 HR1.out x5_1 p460 q460
           cases e460
           have HR460_3 := Aside0.mk hi460_3
           have HC460_3 := Aside0.mk hl460_3
           clear hi460_3 hl460_3
           replace p460 := eq_true p460
           replace q460 := eq_true q460
           have p461 : 0 ≤ (x5_1 : Int) := of_decide_eq_true (by first | (with_reducible assumption) | assumption)
           have q461 : x5_1 < (l0.length : Int) := of_decide_eq_true (by first | (with_reducible assumption) | assumption)
           obtain ⟨ad461, A461_3, c461_3, e461, hx461_0, hx461_1, hx461_2, hx461_3, hl461_3, hi461_3⟩ := at_T35 HR0.out x5_1 p461 q461
           obtain rfl : ad459 = ad461 := (by injection e461)
           have HR461_3 := Aside0.mk hi461_3
           have HC461_3 := Aside0.mk hl461_3
           clear hi461_3 hl461_3
           replace p461 := eq_true p461
           replace q461 := eq_true q461
           have ea_ := Option.some.inj (hx459_3.symm.trans hx461_3)
           injection ea_ with ea_ en_ ec_
           subst ea_
           subst ec_
           clear en_
           have p462 : 0 ≤ (x5_1 : Int) := of_decide_eq_true (by first | (with_reducible assumption) | assumption)
           have q462 : x5_1 < (l1.length : Int) := of_decide_eq_true (by first | (with_reducible assumption) | assumption)
           obtain ⟨ad462, A462_3, c462_3, e462, hx462_0, hx462_1, hx462_2, hx462_3, hl462_3, hi462_3⟩ := at_T35 HR1.out x5_1 p462 q462
           obtain rfl : ad460 = ad462 := (by injection e462)
           have HR462_3 := Aside0.mk hi462_3
           have HC462_3 := Aside0.mk hl462_3
           clear hi462_3 hl462_3
           replace p462 := eq_true p462
           replace q462 := eq_true q462
           have ea_ := Option.some.inj (hx460_3.symm.trans hx462_3)
           injection ea_ with ea_ en_ ec_
           subst ea_
           subst ec_
           clear en_
           have p463 : 0 ≤ (x5_1 : Int) := of_decide_eq_true (by first | (with_reducible assumption) | assumption)
           have q463 : x5_1 < (l0.length : Int) := of_decide_eq_true (by first | (with_reducible assumption) | assumption)
           obtain ⟨ad463, A463_3, c463_3, e463, hx463_0, hx463_1, hx463_2, hx463_3, hl463_3, hi463_3⟩ := at_T35 HR0.out x5_1 p463 q463
           obtain rfl : ad459 = ad463 := (by injection e463)
           have HR463_3 := Aside0.mk hi463_3
           have HC463_3 := Aside0.mk hl463_3
           clear hi463_3 hl463_3
           replace p463 := eq_true p463
           replace q463 := eq_true q463
           have ea_ := Option.some.inj (hx459_3.symm.trans hx463_3)
           injection ea_ with ea_ en_ ec_
           subst ea_
           subst ec_
           clear en_
           have p464 : 0 ≤ (x5_1 : Int) := of_decide_eq_true (by first | (with_reducible assumption) | assumption)
           have q464 : x5_1 < (l1.length : Int) := of_decide_eq_true (by first | (with_reducible assumption) | assumption)
           obtain ⟨ad464, A464_3, c464_3, e464, hx464_0, hx464_1, hx464_2, hx464_3, hl464_3, hi464_3⟩ := at_T35 HR1.out x5_1 p464 q464
           obtain rfl : ad460 = ad464 := (by injection e464)
           have HR464_3 := Aside0.mk hi464_3
           have HC464_3 := Aside0.mk hl464_3
           clear hi464_3 hl464_3
           replace p464 := eq_true p464
           replace q464 := eq_true q464
           have ea_ := Option.some.inj (hx460_3.symm.trans hx464_3)
           injection ea_ with ea_ en_ ec_
           subst ea_
           subst ec_
           clear en_
           have p465 : 0 ≤ (x5_1 : Int) := of_decide_eq_true (by first | (with_reducible assumption) | assumption)
           have q465 : x5_1 < (l0.length : Int) := of_decide_eq_true (by first | (with_reducible assumption) | assumption)
           obtain ⟨ad465, A465_3, c465_3, e465, hx465_0, hx465_1, hx465_2, hx465_3, hl465_3, hi465_3⟩ := at_T35 HR0.out x5_1 p465 q465
           obtain rfl : ad459 = ad465 := (by injection e465)
           have HR465_3 := Aside0.mk hi465_3
           have HC465_3 := Aside0.mk hl465_3
           clear hi465_3 hl465_3
           replace p465 := eq_true p465
           replace q465 := eq_true q465
           have ea_ := Option.some.inj (hx459_3.symm.trans hx465_3)
           injection ea_ with ea_ en_ ec_
           subst ea_
           subst ec_
           clear en_
           have hcv11 := Kd.C_string (P := Try.prog) (A := A459_3) (c := c459_3) Try.underlying33 Try.underlying5 Try.underlying9 HR465_3.out
           have hq11 := fun n => Kd.C_string (P := Try.prog) (A := A459_3) (c := c459_3) Try.underlying33 Try.underlying5 Try.underlying9 (Kd.C_drewN (HR465_3.out) n)
           have p466 : 0 ≤ (x5_1 : Int) := of_decide_eq_true (by first | (with_reducible assumption) | assumption)
           have q466 : x5_1 < (l1.length : Int) := of_decide_eq_true (by first | (with_reducible assumption) | assumption)
           obtain ⟨ad466, A466_3, c466_3, e466, hx466_0, hx466_1, hx466_2, hx466_3, hl466_3, hi466_3⟩ := at_T35 HR1.out x5_1 p466 q466
           obtain rfl : ad460 = ad466 := (by injection e466)
           have HR466_3 := Aside0.mk hi466_3
           have HC466_3 := Aside0.mk hl466_3
           clear hi466_3 hl466_3
           replace p466 := eq_true p466
           replace q466 := eq_true q466
           have ea_ := Option.some.inj (hx460_3.symm.trans hx466_3)
           injection ea_ with ea_ en_ ec_
           subst ea_
           subst ec_
           clear en_
           have hcv12 := Kd.C_string (P := Try.prog) (A := A460_3) (c := c460_3) Try.underlying33 Try.underlying5 Try.underlying9 HR466_3.out
           have hq12 := fun n => Kd.C_string (P := Try.prog) (A := A460_3) (c := c460_3) Try.underlying33 Try.underlying5 Try.underlying9 (Kd.C_drewN (HR466_3.out) n)
           go_wp2
           repeat (go_quiet ((first | (rintro ⟨n_, rfl⟩; exact hq11 n_) | (rintro ⟨n_, rfl⟩; exact hq12 n_) | (intro hS_; obtain ⟨n_, rfl⟩ := hS_; exact hq11 n_) | (intro hS_; obtain ⟨n_, rfl⟩ := hS_; exact hq12 n_))); try go_wp2)
           go_roundg k1
           case measure => have := HK1.out; omega
           case rel => exact ⟨(wrap64 (x5_1 + 1)), (by first | rfl | (simp; done) | (simp [*]; done)), H', ⟨by have := HK1.out; omega⟩, by repeat (first | exact Drawn0.refl _ | apply Drawn0.step)⟩
          ·
           rw [if_neg c10] at H
           have c10b0 : ((strOfNums ((rd_T35 l0 x5_1).f3)).toList == (strOfNums ((rd_T35 l1 x5_1).f3)).toList) = false := beq_eq_false_iff_ne.mpr c10
           have c10b1 : ((strOfNums ((rd_T35 l0 x5_1).f3)).toList != (strOfNums ((rd_T35 l1 x5_1).f3)).toList) = true := bne_iff_ne.mpr c10
           obtain rfl := Option.some.inj H
           have p459 : 0 ≤ (x5_1 : Int) := of_decide_eq_true (by first | (with_reducible assumption) | assumption)
           have q459 : x5_1 < (l0.length : Int) := of_decide_eq_true (by first | (with_reducible assumption) | assumption)
           obtain ⟨ad459, A459_3, c459_3, e459, hx459_0, hx459_1, hx459_2, hx459_3, hl459_3, hi459_3⟩ := at_T35 HR0.out x5_1 p459 q459
           cases e459
           have HR459_3 := Aside0.mk hi459_3
           have HC459_3 := Aside0.mk hl459_3
           clear hi459_3 hl459_3
           replace p459 := eq_true p459
           replace q459 := eq_true q459
           have p460 : 0 ≤ (x5_1 : Int) := of_decide_eq_true (by first | (with_reducible assumption) | assumption)
           have q460 : x5_1 < (l1.length : Int) := of_decide_eq_true (by first | (with_reducible assumption) | assumption)
           obtain ⟨ad460, A460_3, c460_3, e460, hx460_0, hx460_1, hx460_2, hx460_3, hl460_3, hi460_3⟩ := at_T35 HR1.out x5_1 p460 q460
           cases e460
           have HR460_3 := Aside0.mk hi460_3
           have HC460_3 := Aside0.mk hl460_3
           clear hi460_3 hl460_3
           replace p460 := eq_true p460
           replace q460 := eq_true q460
           have p461 : 0 ≤ (x5_1 : Int) := of_decide_eq_true (by first | (with_reducible assumption) | assumption)
           have q461 : x5_1 < (l0.length : Int) := of_decide_eq_true (by first | (with_reducible assumption) | assumption)
           obtain ⟨ad461, A461_3, c461_3, e461, hx461_0, hx461_1, hx461_2, hx461_3, hl461_3, hi461_3⟩ := at_T35 HR0.out x5_1 p461 q461
           obtain rfl : ad459 = ad461 := (by injection e461)
           have HR461_3 := Aside0.mk hi461_3
           have HC461_3 := Aside0.mk hl461_3
           clear hi461_3 hl461_3
           replace p461 := eq_true p461
           replace q461 := eq_true q461
           have ea_ := Option.some.inj (hx459_3.symm.trans hx461_3)
           injection ea_ with ea_ en_ ec_
           subst ea_
           subst ec_
           clear en_
           have p462 : 0 ≤ (x5_1 : Int) := of_decide_eq_true (by first | (with_reducible assumption) | assumption)
           have q462 : x5_1 < (l1.length : Int) := of_decide_eq_true (by first | (with_reducible assumption) | assumption)
           obtain ⟨ad462, A462_3, c462_3, e462, hx462_0, hx462_1, hx462_2, hx462_3, hl462_3, hi462_3⟩ := at_T35 HR1.out x5_1 p462 q462
           obtain rfl : ad460 = ad462 := (by injection e462)
           have HR462_3 := Aside0.mk hi462_3
           have HC462_3 := Aside0.mk hl462_3
           clear hi462_3 hl462_3
           replace p462 := eq_true p462
           replace q462 := eq_true q462
           have ea_ := Option.some.inj (hx460_3.symm.trans hx462_3)
           injection ea_ with ea_ en_ ec_
           subst ea_
           subst ec_
           clear en_
           have p463 : 0 ≤ (x5_1 : Int) := of_decide_eq_true (by first | (with_reducible assumption) | assumption)
           have q463 : x5_1 < (l0.length : Int) := of_decide_eq_true (by first | (with_reducible assumption) | assumption)
           obtain ⟨ad463, A463_3, c463_3, e463, hx463_0, hx463_1, hx463_2, hx463_3, hl463_3, hi463_3⟩ := at_T35 HR0.out x5_1 p463 q463
           obtain rfl : ad459 = ad463 := (by injection e463)
           have HR463_3 := Aside0.mk hi463_3
           have HC463_3 := Aside0.mk hl463_3
           clear hi463_3 hl463_3
           replace p463 := eq_true p463
           replace q463 := eq_true q463
           have ea_ := Option.some.inj (hx459_3.symm.trans hx463_3)
           injection ea_ with ea_ en_ ec_
           subst ea_
           subst ec_
           clear en_
           have p464 : 0 ≤ (x5_1 : Int) := of_decide_eq_true (by first | (with_reducible assumption) | assumption)
           have q464 : x5_1 < (l1.length : Int) := of_decide_eq_true (by first | (with_reducible assumption) | assumption)
           obtain ⟨ad464, A464_3, c464_3, e464, hx464_0, hx464_1, hx464_2, hx464_3, hl464_3, hi464_3⟩ := at_T35 HR1.out x5_1 p464 q464
           obtain rfl : ad460 = ad464 := (by injection e464)
           have HR464_3 := Aside0.mk hi464_3
           have HC464_3 := Aside0.mk hl464_3
           clear hi464_3 hl464_3
           replace p464 := eq_true p464
           replace q464 := eq_true q464
           have ea_ := Option.some.inj (hx460_3.symm.trans hx464_3)
           injection ea_ with ea_ en_ ec_
           subst ea_
           subst ec_
           clear en_
           have p465 : 0 ≤ (x5_1 : Int) := of_decide_eq_true (by first | (with_reducible assumption) | assumption)
           have q465 : x5_1 < (l0.length : Int) := of_decide_eq_true (by first | (with_reducible assumption) | assumption)
           obtain ⟨ad465, A465_3, c465_3, e465, hx465_0, hx465_1, hx465_2, hx465_3, hl465_3, hi465_3⟩ := at_T35 HR0.out x5_1 p465 q465
           obtain rfl : ad459 = ad465 := (by injection e465)
           have HR465_3 := Aside0.mk hi465_3
           have HC465_3 := Aside0.mk hl465_3
           clear hi465_3 hl465_3
           replace p465 := eq_true p465
           replace q465 := eq_true q465
           have ea_ := Option.some.inj (hx459_3.symm.trans hx465_3)
           injection ea_ with ea_ en_ ec_
           subst ea_
           subst ec_
           clear en_
           have hcv13 := Kd.C_string (P := Try.prog) (A := A459_3) (c := c459_3) Try.underlying33 Try.underlying5 Try.underlying9 HR465_3.out
           have hq13 := fun n => Kd.C_string (P := Try.prog) (A := A459_3) (c := c459_3) Try.underlying33 Try.underlying5 Try.underlying9 (Kd.C_drewN (HR465_3.out) n)
           have p466 : 0 ≤ (x5_1 : Int) := of_decide_eq_true (by first | (with_reducible assumption) | assumption)
           have q466 : x5_1 < (l1.length : Int) := of_decide_eq_true (by first | (with_reducible assumption) | assumption)
           obtain ⟨ad466, A466_3, c466_3, e466, hx466_0, hx466_1, hx466_2, hx466_3, hl466_3, hi466_3⟩ := at_T35 HR1.out x5_1 p466 q466
           obtain rfl : ad460 = ad466 := (by injection e466)
           have HR466_3 := Aside0.mk hi466_3
           have HC466_3 := Aside0.mk hl466_3
           clear hi466_3 hl466_3
           replace p466 := eq_true p466
           replace q466 := eq_true q466
           have ea_ := Option.some.inj (hx460_3.symm.trans hx466_3)
           injection ea_ with ea_ en_ ec_
           subst ea_
           subst ec_
           clear en_
           have hcv14 := Kd.C_string (P := Try.prog) (A := A460_3) (c := c460_3) Try.underlying33 Try.underlying5 Try.underlying9 HR466_3.out
           have hq14 := fun n => Kd.C_string (P := Try.prog) (A := A460_3) (c := c460_3) Try.underlying33 Try.underlying5 Try.underlying9 (Kd.C_drewN (HR466_3.out) n)
           go_wp2
           repeat (go_quiet ((first | (rintro ⟨n_, rfl⟩; exact hq13 n_) | (rintro ⟨n_, rfl⟩; exact hq14 n_) | (intro hS_; obtain ⟨n_, rfl⟩ := hS_; exact hq13 n_) | (intro hS_; obtain ⟨n_, rfl⟩ := hS_; exact hq14 n_))); try go_wp2)
           go_ret
           exact ⟨by first | rfl | (simp; done) | (simp [*]; done), by repeat (first | exact Drawn0.refl _ | apply Drawn0.step)⟩
         ·
          rw [if_neg c9] at H
          have c9b0 : (((rd_T35 l0 x5_1).f2) == ((rd_T35 l1 x5_1).f2)) = false := beq_eq_false_iff_ne.mpr c9
          have c9b1 : (((rd_T35 l0 x5_1).f2) != ((rd_T35 l1 x5_1).f2)) = true := bne_iff_ne.mpr c9
          obtain rfl := Option.some.inj H
          have p459 : 0 ≤ (x5_1 : Int) := of_decide_eq_true (by first | (with_reducible assumption) | assumption)
          have q459 : x5_1 < (l0.length : Int) := of_decide_eq_true (by first | (with_reducible assumption) | assumption)
          obtain ⟨ad459, A459_3, c459_3, e459, hx459_0, hx459_1, hx459_2, hx459_3, hl459_3, hi459_3⟩ := at_T35 HR0.out x5_1 p459 q459
          cases e459
          have HR459_3 := Aside0.mk hi459_3
          have HC459_3 := Aside0.mk hl459_3
          clear hi459_3 hl459_3
          replace p459 := eq_true p459
          replace q459 := eq_true q459
          have p460 : 0 ≤ (x5_1 : Int) := of_decide_eq_true (by first | (with_reducible assumption) | assumption)
          have q460 : x5_1 < (l1.length : Int) := of_decide_eq_true (by first | (with_reducible assumption) | assumption)
          obtain ⟨ad460, A460_3, c460_3, e460, hx460_0, hx460_1, hx460_2, hx460_3, hl460_3, hi460_3⟩ := at_T35 HR1.out x5_1 p460 q460
          cases e460
          have HR460_3 := Aside0.mk hi460_3
          have HC460_3 := Aside0.mk hl460_3
          clear hi460_3 hl460_3
          replace p460 := eq_true p460
          replace q460 := eq_true q460
          have p461 : 0 ≤ (x5_1 : Int) := of_decide_eq_true (by first | (with_reducible assumption) | assumption)
          have q461 : x5_1 < (l0.length : Int) := of_decide_eq_true (by first | (with_reducible assumption) | assumption)
          obtain ⟨ad461, A461_3, c461_3, e461, hx461_0, hx461_1, hx461_2, hx461_3, hl461_3, hi461_3⟩ := at_T35 HR0.out x5_1 p461 q461
          obtain rfl : ad459 = ad461 := (by injection e461)
          have HR461_3 := Aside0.mk hi461_3
          have HC461_3 := Aside0.mk hl461_3
          clear hi461_3 hl461_3
          replace p461 := eq_true p461
          replace q461 := eq_true q461
          have ea_ := Option.some.inj (hx459_3.symm.trans hx461_3)
          injection ea_ with ea_ en_ ec_
          subst ea_
          subst ec_
          clear en_
          have p462 : 0 ≤ (x5_1 : Int) := of_decide_eq_true (by first | (with_reducible assumption) | assumption)
          have q462 : x5_1 < (l1.length : Int) := of_decide_eq_true (by first | (with_reducible assumption) | assumption)
          obtain ⟨ad462, A462_3, c462_3, e462, hx462_0, hx462_1, hx462_2, hx462_3, hl462_3, hi462_3⟩ := at_T35 HR1.out x5_1 p462 q462
          obtain rfl : ad460 = ad462 := (by injection e462)
          have HR462_3 := Aside0.mk hi462_3
          have HC462_3 := Aside0.mk hl462_3
          clear hi462_3 hl462_3
          replace p462 := eq_true p462
          replace q462 := eq_true q462
          have ea_ := Option.some.inj (hx460_3.symm.trans hx462_3)
          injection ea_ with ea_ en_ ec_
          subst ea_
          subst ec_
          clear en_
          have p463 : 0 ≤ (x5_1 : Int) := of_decide_eq_true (by first | (with_reducible assumption) | assumption)
          have q463 : x5_1 < (l0.length : Int) := of_decide_eq_true (by first | (with_reducible assumption) | assumption)
          obtain ⟨ad463, A463_3, c463_3, e463, hx463_0, hx463_1, hx463_2, hx463_3, hl463_3, hi463_3⟩ := at_T35 HR0.out x5_1 p463 q463
          obtain rfl : ad459 = ad463 := (by injection e463)
          have HR463_3 := Aside0.mk hi463_3
          have HC463_3 := Aside0.mk hl463_3
          clear hi463_3 hl463_3
          replace p463 := eq_true p463
          replace q463 := eq_true q463
          have ea_ := Option.some.inj (hx459_3.symm.trans hx463_3)
          injection ea_ with ea_ en_ ec_
          subst ea_
          subst ec_
          clear en_
          have p464 : 0 ≤ (x5_1 : Int) := of_decide_eq_true (by first | (with_reducible assumption) | assumption)
          have q464 : x5_1 < (l1.length : Int) := of_decide_eq_true (by first | (with_reducible assumption) | assumption)
          obtain ⟨ad464, A464_3, c464_3, e464, hx464_0, hx464_1, hx464_2, hx464_3, hl464_3, hi464_3⟩ := at_T35 HR1.out x5_1 p464 q464
          obtain rfl : ad460 = ad464 := (by injection e464)
          have HR464_3 := Aside0.mk hi464_3
          have HC464_3 := Aside0.mk hl464_3
          clear hi464_3 hl464_3
          replace p464 := eq_true p464
          replace q464 := eq_true q464
          have ea_ := Option.some.inj (hx460_3.symm.trans hx464_3)
          injection ea_ with ea_ en_ ec_
          subst ea_
          subst ec_
          clear en_
          go_wp2
          repeat (go_quiet (fail); try go_wp2)
          go_ret
          exact ⟨by first | rfl | (simp; done) | (simp [*]; done), by repeat (first | exact Drawn0.refl _ | apply Drawn0.step)⟩
        ·
         rw [if_neg c8] at H
         have c8b0 : (((rd_T35 l0 x5_1).f1) == ((rd_T35 l1 x5_1).f1)) = false := beq_eq_false_iff_ne.mpr c8
         have c8b1 : (((rd_T35 l0 x5_1).f1) != ((rd_T35 l1 x5_1).f1)) = true := bne_iff_ne.mpr c8
         obtain rfl := Option.some.inj H
         have p459 : 0 ≤ (x5_1 : Int) := of_decide_eq_true (by first | (with_reducible assumption) | assumption)
         have q459 : x5_1 < (l0.length : Int) := of_decide_eq_true (by first | (with_reducible assumption) | assumption)
         obtain ⟨ad459, A459_3, c459_3, e459, hx459_0, hx459_1, hx459_2, hx459_3, hl459_3, hi459_3⟩ := at_T35 HR0.out x5_1 p459 q459
         cases e459
         have HR459_3 := Aside0.mk hi459_3
         have HC459_3 := Aside0.mk hl459_3
         clear hi459_3 hl459_3
         replace p459 := eq_true p459
         replace q459 := eq_true q459
         have p460 : 0 ≤ (x5_1 : Int) := of_decide_eq_true (by first | (with_reducible assumption) | assumption)
         have q460 : x5_1 < (l1.length : Int) := of_decide_eq_true (by first | (with_reducible assumption) | assumption)
         obtain ⟨ad460, A460_3, c460_3, e460, hx460_0, hx460_1, hx460_2, hx460_3, hl460_3, hi460_3⟩ := at_T35 HR1.out x5_1 p460 q460
         cases e460
         have HR460_3 := Aside0.mk hi460_3
         have HC460_3 := Aside0.mk hl460_3
         clear hi460_3 hl460_3
         replace p460 := eq_true p460
         replace q460 := eq_true q460
         have p461 : 0 ≤ (x5_1 : Int) := of_decide_eq_true (by first | (with_reducible assumption) | assumption)
         have q461 : x5_1 < (l0.length : Int) := of_decide_eq_true (by first | (with_reducible assumption) | assumption)
         obtain ⟨ad461, A461_3, c461_3, e461, hx461_0, hx461_1, hx461_2, hx461_3, hl461_3, hi461_3⟩ := at_T35 HR0.out x5_1 p461 q461
         obtain rfl : ad459 = ad461 := (by injection e461)
         have HR461_3 := Aside0.mk hi461_3
         have HC461_3 := Aside0.mk hl461_3
         clear hi461_3 hl461_3
         replace p461 := eq_true p461
         replace q461 := eq_true q461
         have ea_ := Option.some.inj (hx459_3.symm.trans hx461_3)
         injection ea_ with ea_ en_ ec_
         subst ea_
         subst ec_
         clear en_
         have p462 : 0 ≤ (x5_1 : Int) := of_decide_eq_true (by first | (with_reducible assumption) | assumption)
         have q462 : x5_1 < (l1.length : Int) := of_decide_eq_true (by first | (with_reducible assumption) | assumption)
         obtain ⟨ad462, A462_3, c462_3, e462, hx462_0, hx462_1, hx462_2, hx462_3, hl462_3, hi462_3⟩ := at_T35 HR1.out x5_1 p462 q462
         obtain rfl : ad460 = ad462 := (by injection e462)
         have HR462_3 := Aside0.mk hi462_3
         have HC462_3 := Aside0.mk hl462_3
         clear hi462_3 hl462_3
         replace p462 := eq_true p462
         replace q462 := eq_true q462
         have ea_ := Option.some.inj (hx460_3.symm.trans hx462_3)
         injection ea_ with ea_ en_ ec_
         subst ea_
         subst ec_
         clear en_
         go_wp2
         repeat (go_quiet (fail); try go_wp2)
         go_ret
         exact ⟨by first | rfl | (simp; done) | (simp [*]; done), by repeat (first | exact Drawn0.refl _ | apply Drawn0.step)⟩
       ·
        rw [if_neg c7] at H
        have c7b0 : (((rd_T35 l0 x5_1).f0) == ((rd_T35 l1 x5_1).f0)) = false := beq_eq_false_iff_ne.mpr c7
        have c7b1 : (((rd_T35 l0 x5_1).f0) != ((rd_T35 l1 x5_1).f0)) = true := bne_iff_ne.mpr c7
        obtain rfl := Option.some.inj H
        have p459 : 0 ≤ (x5_1 : Int) := of_decide_eq_true (by first | (with_reducible assumption) | assumption)
        have q459 : x5_1 < (l0.length : Int) := of_decide_eq_true (by first | (with_reducible assumption) | assumption)
        obtain ⟨ad459, A459_3, c459_3, e459, hx459_0, hx459_1, hx459_2, hx459_3, hl459_3, hi459_3⟩ := at_T35 HR0.out x5_1 p459 q459
        cases e459
        have HR459_3 := Aside0.mk hi459_3
        have HC459_3 := Aside0.mk hl459_3
        clear hi459_3 hl459_3
        replace p459 := eq_true p459
        replace q459 := eq_true q459
        have p460 : 0 ≤ (x5_1 : Int) := of_decide_eq_true (by first | (with_reducible assumption) | assumption)
        have q460 : x5_1 < (l1.length : Int) := of_decide_eq_true (by first | (with_reducible assumption) | assumption)
        obtain ⟨ad460, A460_3, c460_3, e460, hx460_0, hx460_1, hx460_2, hx460_3, hl460_3, hi460_3⟩ := at_T35 HR1.out x5_1 p460 q460
        cases e460
        have HR460_3 := Aside0.mk hi460_3
        have HC460_3 := Aside0.mk hl460_3
        clear hi460_3 hl460_3
        replace p460 := eq_true p460
        replace q460 := eq_true q460
        go_wp2
        repeat (go_quiet (fail); try go_wp2)
        go_ret
        exact ⟨by first | rfl | (simp; done) | (simp [*]; done), by repeat (first | exact Drawn0.refl _ | apply Drawn0.step)⟩
      ·
       rw [if_neg c6] at H
       exact absurd H (by simp)
     ·
      rw [if_neg c5] at H
      exact absurd H (by simp)
    ·
     rw [if_neg c4] at H
     have c4b0 : decide (x5_1 < (l0.length : Int)) = false := decide_eq_false c4
     clear c4
     obtain rfl := Option.some.inj H
     go_wp2
     repeat (go_quiet (fail); try go_wp2)
     go_ret
     exact ⟨by first | rfl | (simp; done) | (simp [*]; done), by repeat (first | exact Drawn0.refl _ | apply Drawn0.step)⟩
 ·
  rw [if_neg c3] at H
  have c3b0 : ((l0.length : Int) == (l1.length : Int)) = false := beq_eq_false_iff_ne.mpr c3
  have c3b1 : ((l0.length : Int) != (l1.length : Int)) = true := bne_iff_ne.mpr c3
  have c3b2 : (l0.length == l1.length) = false := by first | simpa using c3 | (simp at c3 ⊢; omega)
  obtain rfl := Option.some.inj H
  go_enter Try.func29, Try.ntmps29
  go_wp2
  repeat (go_quiet (fail); try go_wp2)
  go_ret
  exact ⟨by first | rfl | (simp; done) | (simp [*]; done), by repeat (first | exact Drawn0.refl _ | apply Drawn0.step)⟩

def twoslotref09_Pairs.l0 : Nat → Int → List (S59) → Int → Int → Int → Int → Int → List (List Int) → Option ((List (S59)))
 | 0, _, _, _, _, _, _, _, _ => none
 | k + 1, x1, x5, x6, x487000, x487001, x487002, x487003, x487004 => (twoslotref06_N.f x487000 x487001 x487002 x487003).bind fun t487 => (if x6 < t487 then ((twoslotref09_Number.f x487000 x487001 x487002 x487003 x6 x1 0).bind fun t488 => (if 0 ≤ t488 then (if t488 < (x487004.length : Int) then (if 0 ≤ (wrap64 (t488 + 1)) then (if (wrap64 (t488 + 1)) < (x487004.length : Int) then (if x5.length < 2932031007402 then (twoslotref09_Pairs.l0 k x1 (x5 ++ [(⟨rd_L1 x487004 t488, rd_L1 x487004 (wrap64 (t488 + 1))⟩ : S59)]) (wrap64 (x6 + 1)) x487000 x487001 x487002 x487003 x487004) else (none)) else (none)) else (none)) else (none)) else (none))) else (some x5))
def twoslotref09_Pairs.f (k : Nat) (a0_0 : Int) (a0_1 : Int) (a0_2 : Int) (a0_3 : Int) (l0_4 : List (List Int)) (a1 : Int) : Option ((List (S59))) := twoslotref09_Pairs.l0 k a1 ([] : List (S59)) 0 a0_0 a0_1 a0_2 a0_3 l0_4
def twoslotref09_Pairs.T6 : Bool × List (List Nat × List Nat) := (true, [([], []), ([], []), ([1], [1]), ([], []), ([2, 3], [2, 3]), ([4], [4]), ([], []), ([6], [6]), ([], []), ([8], [8]), ([7, 9], [7, 9]), ([10], [10]), ([5, 11], [5, 11]), ([12], [12]), ([0, 13], [0, 13]), ([14, 14, 0, 1, 2, 3, 4, 5, 6, 7, 8, 9, 10, 11, 12, 13, 14], [0, 14])])
def twoslotref09_Pairs.B6 : List Nat := [0, 0, 2, 0, 14, 30, 0, 64, 0, 256, 960, 1984, 4094, 8190, 16383, 32767]
theorem twoslotref09_Pairs.tab6 : rtab .any (opsOf Try.f54 6) = twoslotref09_Pairs.T6 := by kernel_rfl
theorem twoslotref09_Pairs.bits6 : waitsOk twoslotref09_Pairs.T6.2 twoslotref09_Pairs.B6 = true := by kernel_rfl
set_option maxHeartbeats 8000000 in
set_option maxRecDepth 100000 in
theorem twoslotref09_Pairs.calls (k : Nat) (a0_0 : Int) (a0_1 : Int) (a0_2 : Int) (a0_3 : Int) (P0_4_ : Nat → Prop) (A0_4 : Option Addr) (c0_4 : Nat) (l0_4 : List (List Int)) (a1 : Int) (r : List (S59)) (w : World) (hs0_4 : Kd.V (Kd.slice 5 (Kd.int .u8)) 33 w w.heap.size (fun k_ => P0_4_ k_) (.slice A0_4 l0_4.length c0_4) l0_4) (h : twoslotref09_Pairs.f k a0_0 a0_1 a0_2 a0_3 l0_4 a1 = some r) :
  Calls Try.prog 54 #[.agg #[.int .i64 a0_0, .int .i64 a0_1, .int .i64 a0_2, .int .i64 a0_3, .slice A0_4 l0_4.length c0_4], .int .i64 a1] w fun e w' => ∃ v0_ : Value, e = .returned (v0_) ∧ Kd.N k59 59 w' w.heap.size (fun k_ => (P0_4_ k_ ∨ w.heap.size ≤ k_)) v0_ r ∧ Below w.heap.size w w' := by
 have hu27 := Try.underlying27
 have hu24 := Try.underlying24
 have hu59 := Try.underlying59
 have HO0_4 := Aside0.mk (show Kd.V (Kd.slice 5 (Kd.int .u8)) 33 w w.heap.size (fun k_ => (P0_4_ k_ ∨ w.heap.size ≤ k_)) (.slice A0_4 l0_4.length c0_4) l0_4 from Kd.V_mono hs0_4 (fun k_ hk => .inl hk))
 have HB := Aside0.mk (Below.refl w.heap.size w)
 have H : (twoslotref09_Pairs.l0 k a1 ([] : List (S59)) 0 a0_0 a0_1 a0_2 a0_3 l0_4) = some r := h
 clear h
 have H' := Aside0.mk H
 clear H
 go_enter Try.func54, Try.ntmps54
 go_wp2_with (first | ((with_reducible refine gate_dst (N := 2) rfl ?_); refine box_event rfl (N := 2) rfl (cs := #[.int .i64 a0_0, .int .i64 a0_1, .int .i64 a0_2, .int .i64 a0_3, .slice A0_4 l0_4.length c0_4]) (t := 27) (by go_simp; try rfl) ?_; intro gb486 hg w3 hbox hb; replace HO0_4 := Aside0.mk (Kd.V_below (Kd.V_elderB (sV HO0_4.out) gb486 (Nat.le_of_eq hg.symm)) hb); have BK486 := Aside0.mk (hbox); have GW486 := Aside0.mk ((by rw [hg]; exact (sZ HB) : w.heap.size ≤ gb486)); have GE486 := Aside0.mk ((by rw [hg]; exact (sZ HB) : w.heap.size ≤ gb486)); replace HB := kH HB hb; clear hb hbox hg))
 go_loopg [5, 6] k (fun kq v5 v6 w' => ∃ (x5_1 : List (S59)) (x6_1 : Int), v6 = .int .i64 x6_1 ∧ Aside0 (twoslotref09_Pairs.l0 kq a1 x5_1 x6_1 a0_0 a0_1 a0_2 a0_3 l0_4 = some r) ∧ Aside0 (kq ≤ k) ∧ Aside0 (Kd.N k59 59 w' w.heap.size (fun k_ => (P0_4_ k_ ∨ w.heap.size ≤ k_) ∧ k_ ≠ gb486) v5 x5_1) ∧ Aside0 (Kd.V (Kd.slice 5 (Kd.int .u8)) 33 w' w.heap.size (fun k_ => (P0_4_ k_ ∨ w.heap.size ≤ k_) ∧ some k_ ≠ (v5 : Value).ownBlock ∧ k_ ≠ gb486) (.slice A0_4 l0_4.length c0_4) l0_4) ∧ Aside0 (w'.heap[gb486]? = some (.cells #[.int .i64 a0_0, .int .i64 a0_1, .int .i64 a0_2, .int .i64 a0_3, (.slice A0_4 l0_4.length c0_4)] 27 (0, 0))) ∧ Aside0 (Below w.heap.size w w'))
 case atStart => exact ⟨(([] : List (S59))), (0), (by first | rfl | (simp; done) | (simp [*]; done)), H', ⟨Nat.le_refl _⟩, ⟨by first | exact Kd.S_nil _ _ _ _ _ | exact Kd.N_nil _ _ _ _ _ | exact Kd.V_nil _ _ _ _ _ | exact Kd.Q_nil _ _ _ _ _ | exact Kd.R_nil _ _ _ _ _⟩, ⟨by (with_reducible repeat (first | apply Kd.V_alloc | apply Kd.V_drewN | apply Kd.V_drew)); exact Kd.V_mono HO0_4.out (fun _ hk => ⟨hk.1, ⟨(by simp [Value.ownBlock]), hk.2⟩⟩)⟩, ⟨by (try refine sO ?_); exact BK486.out⟩, ⟨by repeat (first | exact sH HB.out | refine sN (w := w) ?_ | with_reducible refine sG (w := w) ?_ (by assumption))⟩⟩
 case round =>
  clear H'
  try clear p2
  obtain ⟨x5_1, x6_1, rfl, HA, HK1, HO_5, HO_487004, BK486, HB⟩ := hrel
  cases gk with
  | zero => exact absurd HA.out (by simp [twoslotref09_Pairs.l0])
  | succ k1 =>
   have H := HA.out
   clear HA
   simp only [twoslotref09_Pairs.l0] at H
   replace H := Option.bind_eq_some_iff.mp H
   obtain ⟨t487, A40, H⟩ := H
   try dsimp only at H
   have A4 := Aside0.mk A40
   clear A40
   by_cases c5 : x6_1 < t487
   ·
    rw [if_pos c5] at H
    have c5b0 : decide (x6_1 < t487) = true := decide_eq_true c5
    clear c5
    replace H := Option.bind_eq_some_iff.mp H
    obtain ⟨t488, A60, H⟩ := H
    try dsimp only at H
    have A6 := Aside0.mk A60
    clear A60
    by_cases c7 : 0 ≤ t488
    ·
     rw [if_pos c7] at H
     have c7b0 : decide (0 ≤ t488) = true := decide_eq_true c7
     clear c7
     by_cases c8 : t488 < (l0_4.length : Int)
     ·
      rw [if_pos c8] at H
      have c8b0 : decide (t488 < (l0_4.length : Int)) = true := decide_eq_true c8
      clear c8
      obtain ⟨ji9, hji9⟩ : ∃ j_ : Int, (wrap64 (t488 + 1)) = j_ := ⟨_, rfl⟩
      replace H : (if 0 ≤ (ji9) then (if (ji9) < (l0_4.length : Int) then (if x5_1.length < 2932031007402 then (twoslotref09_Pairs.l0 k1 a1 (x5_1 ++ [(⟨rd_L1 l0_4 t488, rd_L1 l0_4 (ji9)⟩ : S59)]) (wrap64 (x6_1 + 1)) a0_0 a0_1 a0_2 a0_3 l0_4) else (none)) else (none)) else (none)) = some r := by first | (rw [hji9] at H; exact H) | (simp only [hji9] at H ⊢; exact H)
      (try rw [hji9] at A4)
      (try rw [hji9] at A6)
      have hji9w : (IntKind.i64.wrap (t488 + 1)) = ji9 := (i64_w _).trans hji9
      by_cases c10 : 0 ≤ (ji9)
      ·
       rw [if_pos c10] at H
       have c10b0 : decide (0 ≤ (ji9)) = true := decide_eq_true c10
       clear c10
       by_cases c11 : (ji9) < (l0_4.length : Int)
       ·
        rw [if_pos c11] at H
        have c11b0 : decide ((ji9) < (l0_4.length : Int)) = true := decide_eq_true c11
        clear c11
        by_cases c12 : x5_1.length < 2932031007402
        ·
         rw [if_pos c12] at H
         have LMc12 := Aside0.mk c12
         clear c12
         obtain ⟨y491, hy491⟩ : ∃ y_ : List (S59), y_ = (x5_1 ++ [(⟨rd_L1 l0_4 t488, rd_L1 l0_4 (ji9)⟩ : S59)]) := ⟨_, rfl⟩
         replace H : (twoslotref09_Pairs.l0 k1 a1 y491 (wrap64 (x6_1 + 1)) a0_0 a0_1 a0_2 a0_3 l0_4) = some r := by first | (rw [hy491]; with_reducible exact H) | (have H2_ := (Option.bind_some _ _).symm.trans H; rw [hy491]; with_reducible exact H2_) | (have H2_ := (Option.bind_some _ _).symm.trans H; with_reducible exact H2_) | with_reducible exact H | (rw [hy491]; exact H) | exact H
         have Ny491 := Aside0.mk hy491
         clear hy491
         have H' := Aside0.mk H
         clear H; obtain ⟨hcz13_0, hcz13_1, hcz13_2, hcz13_3, hcz13_4, hfz13_0, hfz13_1, hfz13_2, hfz13_3, hfz13_4⟩ := cs5 BK486.out
         try go_wp2_with (first | ((with_reducible refine gate_callee (f := 51) rfl ?_); refine goesL_ (some 11) rfl rfl Try.func51 (by kernel_rfl) rfl #[.agg #[.int .i64 a0_0, .int .i64 a0_1, .int .i64 a0_2, .int .i64 a0_3]] rfl (by (try simp only [sM]); first | done | rfl | (simp only [sT]; rfl)) ?_; (with_reducible refine (twoslotref06_N.calls a0_0 a0_1 a0_2 a0_3 t487 _ A4.out).mono ?_); rintro e w14 ⟨rfl, hb⟩; refine ⟨_, rfl, ?_⟩; replace HO_5 := Aside0.mk (Kd.N_below (sNk HO_5.out) hb); replace HO_487004 := Aside0.mk (Kd.V_below (sV HO_487004.out) hb); replace BK486 := kB BK486 hb; replace HB := Aside0.mk (below_step (by repeat (first | exact sH HB.out | refine sN (w := w) ?_ | with_reducible refine sG (w := w) ?_ (by assumption))) hb); (try clear hb); (try clear hb2); (try clear hk); (try clear hi); obtain ⟨hcz15_0, hcz15_1, hcz15_2, hcz15_3, hcz15_4, hfz15_0, hfz15_1, hfz15_2, hfz15_3, hfz15_4⟩ := cs5 BK486.out) | ((with_reducible refine gate_callee (f := 50) rfl ?_); refine goesL_ (some 19) rfl rfl Try.func50 (by kernel_rfl) rfl #[.agg #[.int .i64 a0_0, .int .i64 a0_1, .int .i64 a0_2, .int .i64 a0_3], .int .i64 x6_1, .int .i64 a1, .int .i64 0] rfl (by (try simp only [sM]); first | done | rfl | (simp only [sT]; rfl)) ?_; (with_reducible refine (twoslotref09_Number.calls a0_0 a0_1 a0_2 a0_3 x6_1 a1 0 t488 _ A6.out).mono ?_); rintro e w16 ⟨rfl, hb⟩; refine ⟨_, rfl, ?_⟩; replace HO_5 := Aside0.mk (Kd.N_below (sNk HO_5.out) hb); replace HO_487004 := Aside0.mk (Kd.V_below (sV HO_487004.out) hb); replace BK486 := kB BK486 hb; replace HB := Aside0.mk (below_step (by repeat (first | exact sH HB.out | refine sN (w := w) ?_ | with_reducible refine sG (w := w) ?_ (by assumption))) hb); (try clear hb); (try clear hb2); (try clear hk); (try clear hi)))
         replace HO_5 := Aside0.mk (Kd.N_drew HO_5.out); replace HO_487004 := Aside0.mk (Kd.V_drew HO_487004.out); replace BK486 := Aside0.mk (blk_drew BK486.out); replace HB := Aside0.mk (below_drew1 HB.out)
         have p489 : 0 ≤ (t488 : Int) := of_decide_eq_true (by first | (with_reducible assumption) | assumption)
         have q489 : t488 < (l0_4.length : Int) := of_decide_eq_true (by first | (with_reducible assumption) | assumption)
         obtain ⟨ad489, A489_0, c489_0, e489, hx489_0, hl489_0, hi489_0⟩ := at_L1 (Kd.V_reads' HO_487004.out).2.2 t488 p489 q489
         cases e489
         obtain ⟨ce489, hce489, hMe489, hcc489⟩ := Kd.V_get HO_487004.out [] t488 p489 (by first | exact q489 | exact of_decide_eq_true (by first | (with_reducible assumption) | assumption) | (have e_ := (Kd.V_reads' HO_487004.out).1; omega))
         obtain ⟨ua489_0, uc489_0, rfl, ul489_0, ge489_0⟩ := Kd.FK_slice_open hMe489
         have hv489_0 := hcc489 0 _ rfl
         rw [Nat.add_zero, show ((Kd.slice 5 (Kd.int .u8))).sz = 1 from rfl, Nat.mul_one] at hv489_0
         replace hv489_0 := Option.some.inj (hv489_0.symm.trans hx489_0)
         injection hv489_0 with hva_ hvn_ hvc_
         rw [hva_] at ge489_0
         rw [hvc_] at ul489_0
         have HL489_0 := Aside0.mk (show Kd.V (Kd.int .u8) 5 _ w.heap.size _ _ (rd_L1 l0_4 t488) from Kd.V_mk ul489_0 ge489_0)
         clear hva_ hvn_ hvc_ ge489_0 ul489_0
         clear hcc489 hce489
         have HR489_0 := Aside0.mk hi489_0
         have HC489_0 := Aside0.mk hl489_0
         clear hi489_0 hl489_0
         replace p489 := eq_true p489
         replace q489 := eq_true q489
         have p490 : 0 ≤ ((ji9) : Int) := of_decide_eq_true (by first | (with_reducible assumption) | assumption)
         have q490 : (ji9) < (l0_4.length : Int) := of_decide_eq_true (by first | (with_reducible assumption) | assumption)
         obtain ⟨ad490, A490_0, c490_0, e490, hx490_0, hl490_0, hi490_0⟩ := at_L1 (Kd.V_reads' HO_487004.out).2.2 (ji9) p490 q490
         obtain rfl : ad489 = ad490 := (by injection e490)
         obtain ⟨ce490, hce490, hMe490, hcc490⟩ := Kd.V_get HO_487004.out [] (ji9) p490 (by first | exact q490 | exact of_decide_eq_true (by first | (with_reducible assumption) | assumption) | (have e_ := (Kd.V_reads' HO_487004.out).1; omega))
         obtain ⟨ua490_0, uc490_0, rfl, ul490_0, ge490_0⟩ := Kd.FK_slice_open hMe490
         have hv490_0 := hcc490 0 _ rfl
         rw [Nat.add_zero, show ((Kd.slice 5 (Kd.int .u8))).sz = 1 from rfl, Nat.mul_one] at hv490_0
         replace hv490_0 := Option.some.inj (hv490_0.symm.trans hx490_0)
         injection hv490_0 with hva_ hvn_ hvc_
         rw [hva_] at ge490_0
         rw [hvc_] at ul490_0
         have HL490_0 := Aside0.mk (show Kd.V (Kd.int .u8) 5 _ w.heap.size _ _ (rd_L1 l0_4 (ji9)) from Kd.V_mk ul490_0 ge490_0)
         clear hva_ hvn_ hvc_ ge490_0 ul490_0
         clear hcc490 hce490
         have HR490_0 := Aside0.mk hi490_0
         have HC490_0 := Aside0.mk hl490_0
         clear hi490_0 hl490_0
         replace p490 := eq_true p490
         replace q490 := eq_true q490
         refine start_ (n := 16) (S := fun w' => w'.cell? ⟨gb486, 0, none⟩ = some (.int .i64 a0_0) ∧ w'.cell? ⟨gb486, 1, none⟩ = some (.int .i64 a0_1) ∧ w'.cell? ⟨gb486, 2, none⟩ = some (.int .i64 a0_2) ∧ w'.cell? ⟨gb486, 3, none⟩ = some (.int .i64 a0_3) ∧ w'.cell? ⟨gb486, 4, none⟩ = some (.slice (some ad489) l0_4.length c0_4) ∧ w'.cell? (ad489.add (t488).toNat) = some (.slice A489_0 (rd_L1 l0_4 t488).length c489_0) ∧ w'.cell? (ad489.add ((ji9)).toNat) = some (.slice A490_0 (rd_L1 l0_4 (ji9)).length c490_0)) (ds := [13, 14]) #[O,O,O,O,O,O,O,O,O,O,O,O,O,O,O,O] (by kernel_rfl) rfl rfl ⟨(blk_cell BK486.out 0).trans rfl, (blk_cell BK486.out 1).trans rfl, (blk_cell BK486.out 2).trans rfl, (blk_cell BK486.out 3).trans rfl, (blk_cell BK486.out 4).trans rfl, hx489_0, hx490_0⟩ (fun hHeld => ?_); refine with_tabW twoslotref09_Pairs.tab6 twoslotref09_Pairs.bits6 (fun HT_ HW_ => ?_)
         generalize w16.drew = w17 at HO_5 HO_487004 BK486 HB HL489_0 HL490_0 HR489_0 HR490_0 hx489_0 hx490_0 hHeld ⊢
         refine pu (i := 0) (N := some 20) (v := ?_) (a' := ?_) #[X,O,O,O,O,O,O,O,O,O,O,O,O,O,O,O] rfl rfl HT_ (by kernel_rfl) (fun _ _ _ h => h) ⟨by rfl, ?_⟩ ?_ ?_
         rotate_left; (intro w'; go_simp; with_reducible rfl); rotate_left; (simp only [sP]; rfl)
         refine pu (i := 1) (N := some 21) (v := ?_) (a' := ?_) #[X,X,O,O,O,O,O,O,O,O,O,O,O,O,O,O] rfl rfl HT_ (by kernel_rfl) (fun _ _ _ h => h) ⟨by rfl, ?_⟩ ?_ ?_
         rotate_left; (intro w'; go_simp; with_reducible rfl); rotate_left; (simp only [sP]; rfl)
         refine pu (i := 3) (N := some 23) (v := ?_) (a' := ?_) #[X,X,O,X,O,O,O,O,O,O,O,O,O,O,O,O] rfl rfl HT_ (by kernel_rfl) (fun _ _ _ h => h) ⟨by rfl, ?_⟩ ?_ ?_
         rotate_left; (intro w'; go_simp; with_reducible rfl); rotate_left; (simp only [sP]; rfl)
         refine pu (i := 6) (N := some 26) (v := ?_) (a' := ?_) #[X,X,O,X,O,O,X,O,O,O,O,O,O,O,O,O] rfl rfl HT_ (by kernel_rfl) (fun _ _ _ h => h) ⟨by rfl, ?_⟩ ?_ ?_
         rotate_left; (intro w'; go_simp; with_reducible rfl); rotate_left; (simp only [sP]; rfl)
         refine pu (i := 8) (N := some 28) (v := ?_) (a' := ?_) #[X,X,O,X,O,O,X,O,X,O,O,O,O,O,O,O] rfl rfl HT_ (by kernel_rfl) (fun _ _ _ h => h) ⟨by rfl, ?_⟩ ?_ ?_
         rotate_left; (intro w'; go_simp; with_reducible rfl); rotate_left; (simp only [sP]; rfl)
         refine pu (i := 9) (N := some 29) (v := ?_) (a' := ?_) #[X,X,O,X,O,O,X,O,X,X,O,O,O,O,O,O] rfl rfl HT_ (by kernel_rfl) (fun _ _ _ h => h) ⟨by rfl, ?_⟩ ?_ ?_
         rotate_left; (intro w'; go_simp; with_reducible rfl); rotate_left; (simp only [sP]; rfl)
         refine tu (i := 2) (N := some 22) (v := ?_) (a' := ?_) #[X,X,X,X,O,O,X,O,X,X,O,O,O,O,O,O] rfl rfl HT_ HW_ (by kernel_rfl) (fun _ _ _ h => h) ⟨by rfl, ?_⟩ hHeld ?_ ?_
         rotate_left; (rintro w' ⟨s0, s1, s2, s3, s4, s5, s6⟩; go_simp; with_reducible rfl); rotate_left; (simp only [sP]; rfl)
         refine pu (i := 4) (N := some 24) (v := ?_) (a' := ?_) #[X,X,X,X,X,O,X,O,X,X,O,O,O,O,O,O] rfl rfl HT_ (by kernel_rfl) (fun _ _ _ h => h) ⟨by rfl, ?_⟩ ?_ ?_
         rotate_left; (intro w'; go_simp; with_reducible rfl); rotate_left; (simp only [sP]; rfl)
         refine tu (i := 5) (N := some 25) (v := ?_) (a' := ?_) #[X,X,X,X,X,X,X,O,X,X,O,O,O,O,O,O] rfl rfl HT_ HW_ (by kernel_rfl) (fun _ _ _ h => h) ⟨by rfl, ?_⟩ hHeld ?_ ?_
         rotate_left; (rintro w' ⟨s0, s1, s2, s3, s4, s5, s6⟩; go_simp; with_reducible rfl); rotate_left; (simp only [sP]; rfl)
         refine tu (i := 7) (N := some 27) (v := ?_) (a' := ?_) #[X,X,X,X,X,X,X,X,X,X,O,O,O,O,O,O] rfl rfl HT_ HW_ (by kernel_rfl) (fun _ _ _ h => h) ⟨by rfl, ?_⟩ hHeld ?_ ?_
         rotate_left; (rintro w' ⟨s0, s1, s2, s3, s4, s5, s6⟩; go_simp; with_reducible rfl); rotate_left; (simp only [sP]; rfl)
         refine pu (i := 10) (N := some 30) (v := ?_) (a' := ?_) #[X,X,X,X,X,X,X,X,X,X,X,O,O,O,O,O] rfl rfl HT_ (by kernel_rfl) (fun _ _ _ h => h) ⟨by rfl, ?_⟩ ?_ ?_
         rotate_left; (intro w'; go_simp; with_reducible rfl); rotate_left; (simp only [sP]; rfl)
         refine tu (i := 11) (N := some 31) (v := ?_) (a' := ?_) #[X,X,X,X,X,X,X,X,X,X,X,X,O,O,O,O] rfl rfl HT_ HW_ (by kernel_rfl) (fun _ _ _ h => h) ⟨by rfl, ?_⟩ hHeld ?_ ?_
         rotate_left; (rintro w' ⟨s0, s1, s2, s3, s4, s5, s6⟩; go_simp; with_reducible rfl); rotate_left; (simp only [sP]; rfl)
         refine pu (i := 12) (N := some 32) (v := ?_) (a' := ?_) #[X,X,X,X,X,X,X,X,X,X,X,X,X,O,O,O] rfl rfl HT_ (by kernel_rfl) (fun _ _ _ h => h) ⟨by rfl, ?_⟩ ?_ ?_
         rotate_left; (intro w'; go_simp; with_reducible rfl); rotate_left; (simp only [sP]; rfl)
         refine last_ (i := 13) (N := some 33) #[X,X,X,X,X,X,X,X,X,X,X,X,X,X,O,O] rfl rfl (one_of HT_.out (by kernel_rfl)) (by decide) (fun K hK => ?_)
         refine value_ (w1 := ?_) (v := ?_) (by rfl) rfl ?_ ?_
         rotate_left 2
         ·
          go_simp
          constructor
          ·
           rfl
          ·
           rfl
         refine hK.out _ _ ?_
         clear hK K
         refine norm_ (a' := ?_) ?_ ?_
         rotate_left
         ·
          show Act.put _ (some 33) _ = _
          simp only [sP]
          rfl
         refine last_ (i := 14) (N := some 34) #[X,X,X,X,X,X,X,X,X,X,X,X,X,X,X,O] rfl rfl (one_of HT_.out (by kernel_rfl)) (by decide) (fun K hK => ?_)
         refine Kd.N_append_step k59 (w0 := w) w.heap.size (by rfl) (.tmp 20) (.tmp 33) 42 59 (.agg #[(.slice none 0 0), (.slice none 0 0)]) 48 rfl Try.underlying42 info59 rfl (by decide) (by omega) u5 x5_1 (⟨rd_L1 l0_4 t488, rd_L1 l0_4 (ji9)⟩ : S59) [.slice A489_0 (rd_L1 l0_4 t488).length c489_0, .slice A490_0 (rd_L1 l0_4 (ji9)).length c490_0] (fun k_ => (P0_4_ k_ ∨ w.heap.size ≤ k_) ∧ k_ ≠ gb486) (fun k_ => ((fun k_ => (P0_4_ k_ ∨ w.heap.size ≤ k_) ∧ k_ ≠ gb486)) k_ ∧ some k_ ≠ (u5 : Value).ownBlock) rfl rfl ?aP (fun _ hk => hk) ?aF ?aO ?aB ?aS ?aL ?_
         (case aP => exact (k59_mkF _ _ (⟨rd_L1 l0_4 t488, rd_L1 l0_4 (ji9)⟩ : S59) (Kd.V_reads' (Kd.V_mono (ok' := (fun k_ => ((fun k_ => (P0_4_ k_ ∨ w.heap.size ≤ k_) ∧ k_ ≠ gb486)) k_ ∧ some k_ ≠ (u5 : Value).ownBlock)) (HL489_0.out) (fun k_ hk => ⟨⟨hk.1, hk.2.2⟩, hk.2.1⟩))).2.1 (Kd.V_F (Kd.V_mono (ok' := (fun k_ => ((fun k_ => (P0_4_ k_ ∨ w.heap.size ≤ k_) ∧ k_ ≠ gb486)) k_ ∧ some k_ ≠ (u5 : Value).ownBlock)) (HL489_0.out) (fun k_ hk => ⟨⟨hk.1, hk.2.2⟩, hk.2.1⟩))) (Kd.V_reads' (Kd.V_mono (ok' := (fun k_ => ((fun k_ => (P0_4_ k_ ∨ w.heap.size ≤ k_) ∧ k_ ≠ gb486)) k_ ∧ some k_ ≠ (u5 : Value).ownBlock)) (HL490_0.out) (fun k_ hk => ⟨⟨hk.1, hk.2.2⟩, hk.2.1⟩))).2.1 (Kd.V_F (Kd.V_mono (ok' := (fun k_ => ((fun k_ => (P0_4_ k_ ∨ w.heap.size ≤ k_) ∧ k_ ≠ gb486)) k_ ∧ some k_ ≠ (u5 : Value).ownBlock)) (HL490_0.out) (fun k_ hk => ⟨⟨hk.1, hk.2.2⟩, hk.2.1⟩)))))
         (case aB => exact (by repeat (first | exact sH HB.out | refine sN (w := w) ?_ | with_reducible refine sG (w := w) ?_ (by assumption))))
         (case aF => exact (fun k_ hk => ⟨(.inr (Nat.le_trans (below_size (by repeat (first | exact sH HB.out | refine sN (w := w) ?_ | with_reducible refine sG (w := w) ?_ (by assumption)))) hk)), Kd.freshB (g := gb486) (o := .cells #[.int .i64 a0_0, .int .i64 a0_1, .int .i64 a0_2, .int .i64 a0_3, .slice (some ad489) l0_4.length c0_4] 27 (0, 0)) (by first | exact BK486.out | (refine sO ?_; exact BK486.out)) k_ hk⟩))
         (case aO => exact (sNk HO_5.out))
         (case aS => exact (below_size (by repeat (first | exact sH HB.out | refine sN (w := w) ?_ | with_reducible refine sG (w := w) ?_ (by assumption)))))
         (case aL => have := LMc12.out; omega)
         intro v492 w18 ho hb hg hat
         rw [← Ny491.out] at ho
         have n0_ := Aside0.mk (Kd.V_afterv (ok := (fun k_ => (P0_4_ k_ ∨ w.heap.size ≤ k_) ∧ k_ ≠ gb486)) (by (with_reducible repeat (first | apply Kd.V_alloc | apply Kd.V_drewN | apply Kd.V_drew)); exact Kd.V_mono HO_487004.out (fun _ hk => ⟨⟨hk.1, hk.2.2⟩, hk.2.1⟩)) hg hat); have n1_ := Aside0.mk (blk_grown (g := gb486) (o := .cells #[.int .i64 a0_0, .int .i64 a0_1, .int .i64 a0_2, .int .i64 a0_3, .slice (some ad489) l0_4.length c0_4] 27 (0, 0)) (by first | exact BK486.out | (refine sO ?_; exact BK486.out)) hg (Kd.N_ne HO_5.out BK486.out (by decide))); have n2_ := Aside0.mk (Kd.V_afterv (ok := (fun k_ => (P0_4_ k_ ∨ w.heap.size ≤ k_) ∧ k_ ≠ gb486)) (by (with_reducible repeat (first | apply Kd.V_alloc | apply Kd.V_drewN | apply Kd.V_drew)); exact Kd.V_mono HL489_0.out (fun _ hk => ⟨⟨hk.1, hk.2.2⟩, hk.2.1⟩)) hg hat); have n3_ := Aside0.mk (Kd.V_afterv (ok := (fun k_ => (P0_4_ k_ ∨ w.heap.size ≤ k_) ∧ k_ ≠ gb486)) (by (with_reducible repeat (first | apply Kd.V_alloc | apply Kd.V_drewN | apply Kd.V_drew)); exact Kd.V_mono HL490_0.out (fun _ hk => ⟨⟨hk.1, hk.2.2⟩, hk.2.1⟩)) hg hat); have n4_ := Aside0.mk (hb); have n5_ := Aside0.mk (ho); clear HO_487004; clear BK486; clear HL489_0; clear HL490_0; clear HB; clear HO_5; have HO_487004 := n0_; have BK486 := n1_; have HL489_0 := n2_; have HL490_0 := n3_; have HB := n4_; have HO493 := n5_; clear n0_ n1_ n2_ n3_ n4_ n5_
         clear ho hb hg hat
         refine hK.out _ _ ?_
         clear hK K
         refine norm_ (a' := ?_) ?_ ?_
         rotate_left
         ·
          show Act.put _ (some 34) _ = _
          simp only [sP]
          rfl
         refine pu (i := 15) (N := some 5) (v := ?_) (a' := ?_) #[X,X,X,X,X,X,X,X,X,X,X,X,X,X,X,X] rfl rfl HT_ (by kernel_rfl) (fun _ _ _ h => h) ⟨by rfl, ?_⟩ ?_ ?_
         rotate_left; (intro w'; go_simp; with_reducible rfl); rotate_left; (simp only [sP]; rfl)
         refine done_ (done_of HT_.out (by kernel_rfl)) ?_
         try go_wp2
         go_roundg k1
         case measure => have := HK1.out; omega
         case rel => exact ⟨(y491), (wrap64 (x6_1 + 1)), (by first | rfl | (simp; done) | (simp [*]; done)), H', ⟨by have := HK1.out; omega⟩, ⟨by (with_reducible repeat (first | apply Kd.N_alloc | apply Kd.N_drewN | apply Kd.N_drew)); exact HO493.out⟩, ⟨by (with_reducible repeat (first | apply Kd.V_alloc | apply Kd.V_drewN | apply Kd.V_drew)); exact Kd.V_mono HO_487004.out (fun _ hk => ⟨hk.1.1, ⟨hk.2, hk.1.2⟩⟩)⟩, ⟨by (try refine sO ?_); exact BK486.out⟩, ⟨by repeat (first | exact sH HB.out | refine sN (w := w) ?_ | with_reducible refine sG (w := w) ?_ (by assumption))⟩⟩
        ·
         rw [if_neg c12] at H
         exact absurd H (by simp)
       ·
        rw [if_neg c11] at H
        exact absurd H (by simp)
      ·
       rw [if_neg c10] at H
       exact absurd H (by simp)
     ·
      rw [if_neg c8] at H
      exact absurd H (by simp)
    ·
     rw [if_neg c7] at H
     exact absurd H (by simp)
   ·
    rw [if_neg c5] at H
    have c5b0 : decide (x6_1 < t487) = false := decide_eq_false c5
    clear c5
    obtain rfl := Option.some.inj H
    obtain ⟨hcz19_0, hcz19_1, hcz19_2, hcz19_3, hcz19_4, hfz19_0, hfz19_1, hfz19_2, hfz19_3, hfz19_4⟩ := cs5 BK486.out
    go_wp2_with (first | ((with_reducible refine gate_callee (f := 51) rfl ?_); refine goesL_ (some 11) rfl rfl Try.func51 (by kernel_rfl) rfl #[.agg #[.int .i64 a0_0, .int .i64 a0_1, .int .i64 a0_2, .int .i64 a0_3]] rfl (by (try simp only [sM]); first | done | rfl | (simp only [sT]; rfl)) ?_; (with_reducible refine (twoslotref06_N.calls a0_0 a0_1 a0_2 a0_3 t487 _ A4.out).mono ?_); rintro e w20 ⟨rfl, hb⟩; refine ⟨_, rfl, ?_⟩; replace HO_5 := Aside0.mk (Kd.N_below (sNk HO_5.out) hb); replace HO_487004 := Aside0.mk (Kd.V_below (sV HO_487004.out) hb); replace BK486 := kB BK486 hb; replace HB := Aside0.mk (below_step (by repeat (first | exact sH HB.out | refine sN (w := w) ?_ | with_reducible refine sG (w := w) ?_ (by assumption))) hb); (try clear hb); (try clear hb2); (try clear hk); (try clear hi)))
    go_ret
    exact ⟨_, by first | rfl | (simp [errW_none, errW_some] <;> rfl) | (simp [*, errW_none, errW_some] <;> rfl), by (with_reducible repeat (first | apply Kd.N_alloc | apply Kd.N_drewN | apply Kd.N_drew)); exact Kd.N_mono HO_5.out (fun _ hk => hk.1), by repeat (first | exact sH HB.out | refine sN (w := w) ?_ | with_reducible refine sG (w := w) ?_ (by assumption))⟩

end Go.Proofs.Ytcnmocbiekfpbaa.P

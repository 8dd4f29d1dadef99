-- Written by a program of this session, after the kit's print.
import Derived.Test.YtcnmocbiekfpbaaPx0
import Derived.Test.YtcnmocbiekfpbaaP0Short
import Derived.Test.YtcnmocbiekfpbaaPx19
import Derived.Test.YtcnmocbiekfpbaaPx21
namespace Go.Proofs.Ytcnmocbiekfpbaa.P
open Go.RowKit Go.Proofs.YtcnmocbiekfpbaaW.PrintWords Go.Proofs.YtcnmocbiekfpbaaW.PrintLast Go.Proofs.YtcnmocbiekfpbaaW.PrintMore
attribute [local go_sem] max2_int min2_int max_two min_two max_three min_three max_four min_four   -- for this text's walks alone
set_option linter.unusedVariables false
set_option linter.unusedSimpArgs false

def twoslotref09_SamePuts.l0 : Nat → List (S35) → List (S35) → Int → Option (Bool)
 | 0, _, _, _ => none
 | k + 1, x0, x1, x5 => if x5 < (x0.length : Int) then (if 0 ≤ x5 then (if x5 < (x1.length : Int) then (if ((rd_T35 x0 x5).f0) = ((rd_T35 x1 x5).f0) then (if ((rd_T35 x0 x5).f1) = ((rd_T35 x1 x5).f1) then (if ((rd_T35 x0 x5).f2) = ((rd_T35 x1 x5).f2) then (if (strOfNums ((rd_T35 x0 x5).f3)).toList = (strOfNums ((rd_T35 x1 x5).f3)).toList then (twoslotref09_SamePuts.l0 k x0 x1 (wrap64 (x5 + 1))) else (some false)) else (some false)) else (some false)) else (some false)) else (none)) else (none)) else (some true)
def twoslotref09_SamePuts.f (k : Nat) (l0 : List (S35)) (l1 : List (S35)) : Option (Bool) := if (l0.length : Int) = (l1.length : Int) then (twoslotref09_SamePuts.l0 k l0 l1 0) else (some false)
set_option maxHeartbeats 8000000 in
set_option maxRecDepth 100000 in
theorem twoslotref09_SamePuts.calls (k : Nat) (A0 : Option Addr) (c0 : Nat) (l0 : List (S35)) (A1 : Option Addr) (c1 : Nat) (l1 : List (S35)) (r : Bool) (w : World) (hr0 : Kd.C k35 w A0 l0.length l0) (hc0 : l0.length ≤ c0) (hr1 : Kd.C k35 w A1 l1.length l1) (hc1 : l1.length ≤ c1) (h : twoslotref09_SamePuts.f k l0 l1 = some r) :
  Calls Try.prog 29 #[.slice A0 l0.length c0, .slice A1 l1.length c1] w fun e w' => e = .returned (.bool r) ∧ Drawn0 w w' := by
 have HR0 := Aside0.mk hr0
 have HC0 := Aside0.mk hc0
 clear hr0 hc0
 have HR1 := Aside0.mk hr1
 have HC1 := Aside0.mk hc1
 clear hr1 hc1
 have H : (if (l0.length : Int) = (l1.length : Int) then (twoslotref09_SamePuts.l0 k l0 l1 0) else (some false)) = some r := h
 clear h
 by_cases c3 : (l0.length : Int) = (l1.length : Int)
 ·
  rw [if_pos c3] at H
  have c3b0 : ((l0.length : Int) == (l1.length : Int)) = true := beq_iff_eq.mpr c3
  have c3b1 : ((l0.length : Int) != (l1.length : Int)) = false := bne_eq_false_iff_eq.mpr c3
  have c3b2 : (l0.length == l1.length) = true := by first | simpa using c3 | (simp at c3 ⊢; omega)
  clear c3
  have H' := Aside0.mk H
  clear H
  go_enter Try.func29, Try.ntmps29
  go_wp2
  repeat (go_quiet (fail); try go_wp2)
  go_loopg [5] k (fun kq v5 w' => ∃ (x5_1 : Int), v5 = .int .i64 x5_1 ∧ Aside0 (twoslotref09_SamePuts.l0 kq l0 l1 x5_1 = some r) ∧ Aside0 (kq ≤ k) ∧ Drawn0 w w')
  case atStart => exact ⟨(0), (by first | rfl | (simp; done) | (simp [*]; done)), H', ⟨Nat.le_refl _⟩, by repeat (first | exact Drawn0.refl _ | apply Drawn0.step)⟩
  case round =>
   clear H'
   try clear c1
   try clear c2
   try clear p2
   try clear c3
   try clear c3b0
   try clear c3b1
   try clear c3b2
   obtain ⟨x5_1, rfl, HA, HK1, ⟨m1, rfl⟩⟩ := hrel
   cases gk with
   | zero => exact absurd HA.out (by simp [twoslotref09_SamePuts.l0])
   | succ k1 =>
    have H := HA.out
    clear HA
    simp only [twoslotref09_SamePuts.l0] at H
    by_cases c4 : x5_1 < (l0.length : Int)
    ·
     rw [if_pos c4] at H
     have c4b0 : decide (x5_1 < (l0.length : Int)) = true := decide_eq_true c4
     clear c4
     by_cases c5 : 0 ≤ x5_1
     ·
      rw [if_pos c5] at H
      have c5b0 : decide (0 ≤ x5_1) = true := decide_eq_true c5
      clear c5
      by_cases c6 : x5_1 < (l1.length : Int)
      ·
       rw [if_pos c6] at H
       have c6b0 : decide (x5_1 < (l1.length : Int)) = true := decide_eq_true c6
       clear c6
       by_cases c7 : ((rd_T35 l0 x5_1).f0) = ((rd_T35 l1 x5_1).f0)
       ·
        rw [if_pos c7] at H
        have c7b0 : (((rd_T35 l0 x5_1).f0) == ((rd_T35 l1 x5_1).f0)) = true := beq_iff_eq.mpr c7
        have c7b1 : (((rd_T35 l0 x5_1).f0) != ((rd_T35 l1 x5_1).f0)) = false := bne_eq_false_iff_eq.mpr c7
        clear c7
        by_cases c8 : ((rd_T35 l0 x5_1).f1) = ((rd_T35 l1 x5_1).f1)
        ·
         rw [if_pos c8] at H
         have c8b0 : (((rd_T35 l0 x5_1).f1) == ((rd_T35 l1 x5_1).f1)) = true := beq_iff_eq.mpr c8
         have c8b1 : (((rd_T35 l0 x5_1).f1) != ((rd_T35 l1 x5_1).f1)) = false := bne_eq_false_iff_eq.mpr c8
         clear c8
         by_cases c9 : ((rd_T35 l0 x5_1).f2) = ((rd_T35 l1 x5_1).f2)
         ·
          rw [if_pos c9] at H
          have c9b0 : (((rd_T35 l0 x5_1).f2) == ((rd_T35 l1 x5_1).f2)) = true := beq_iff_eq.mpr c9
          have c9b1 : (((rd_T35 l0 x5_1).f2) != ((rd_T35 l1 x5_1).f2)) = false := bne_eq_false_iff_eq.mpr c9
          clear c9
          by_cases c10 : (strOfNums ((rd_T35 l0 x5_1).f3)).toList = (strOfNums ((rd_T35 l1 x5_1).f3)).toList
          ·
           rw [if_pos c10] at H
           have c10b0 : ((strOfNums ((rd_T35 l0 x5_1).f3)).toList == (strOfNums ((rd_T35 l1 x5_1).f3)).toList) = true := beq_iff_eq.mpr c10
           have c10b1 : ((strOfNums ((rd_T35 l0 x5_1).f3)).toList != (strOfNums ((rd_T35 l1 x5_1).f3)).toList) = false := bne_eq_false_iff_eq.mpr c10
           clear c10
           have H' := Aside0.mk H
           clear H
           have p459 : 0 ≤ (x5_1 : Int) := of_decide_eq_true (by first | (with_reducible assumption) | assumption)
           have q459 : x5_1 < (l0.length : Int) := of_decide_eq_true (by first | (with_reducible assumption) | assumption)
           obtain ⟨ad459, A459_3, c459_3, e459, hx459_0, hx459_1, hx459_2, hx459_3, hl459_3, hi459_3⟩ := at_T35 HR0.out x5_1 p459 q459
           cases e459
           have HR459_3 := Aside0.mk hi459_3
           have HC459_3 := Aside0.mk hl459_3
           clear hi459_3 hl459_3
           replace p459 := eq_true p459
           replace q459 := eq_true q459
           have p460 : 0 ≤ (x5_1 : Int) := of_decide_eq_true (by first | (with_reducible assumption) | assumption)
           have q460 : x5_1 < (l1.length : Int) := of_decide_eq_true (by first | (with_reducible assumption) | assumption)
           obtain ⟨ad460, A460_3, c460_3, e460, hx460_0, hx460_1, hx460_2, hx460_3, hl460_3, hi460_3⟩ := at_T35 HR1.out x5_1 p460 q460
           cases e460
           have HR460_3 := Aside0.mk hi460_3
           have HC460_3 := Aside0.mk hl460_3
           clear hi460_3 hl460_3
           replace p460 := eq_true p460
           replace q460 := eq_true q460
           have p461 : 0 ≤ (x5_1 : Int) := of_decide_eq_true (by first | (with_reducible assumption) | assumption)
           have q461 : x5_1 < (l0.length : Int) := of_decide_eq_true (by first | (with_reducible assumption) | assumption)
           obtain ⟨ad461, A461_3, c461_3, e461, hx461_0, hx461_1, hx461_2, hx461_3, hl461_3, hi461_3⟩ := at_T35 HR0.out x5_1 p461 q461
           obtain rfl : ad459 = ad461 := (by injection e461)
           have HR461_3 := Aside0.mk hi461_3
           have HC461_3 := Aside0.mk hl461_3
           clear hi461_3 hl461_3
           replace p461 := eq_true p461
           replace q461 := eq_true q461
           have ea_ := Option.some.inj (hx459_3.symm.trans hx461_3)
           injection ea_ with ea_ en_ ec_
           subst ea_
           subst ec_
           clear en_
           have p462 : 0 ≤ (x5_1 : Int) := of_decide_eq_true (by first | (with_reducible assumption) | assumption)
           have q462 : x5_1 < (l1.length : Int) := of_decide_eq_true (by first | (with_reducible assumption) | assumption)
           obtain ⟨ad462, A462_3, c462_3, e462, hx462_0, hx462_1, hx462_2, hx462_3, hl462_3, hi462_3⟩ := at_T35 HR1.out x5_1 p462 q462
           obtain rfl : ad460 = ad462 := (by injection e462)
           have HR462_3 := Aside0.mk hi462_3
           have HC462_3 := Aside0.mk hl462_3
           clear hi462_3 hl462_3
           replace p462 := eq_true p462
           replace q462 := eq_true q462
           have ea_ := Option.some.inj (hx460_3.symm.trans hx462_3)
           injection ea_ with ea_ en_ ec_
           subst ea_
           subst ec_
           clear en_
           have p463 : 0 ≤ (x5_1 : Int) := of_decide_eq_true (by first | (with_reducible assumption) | assumption)
           have q463 : x5_1 < (l0.length : Int) := of_decide_eq_true (by first | (with_reducible assumption) | assumption)
           obtain ⟨ad463, A463_3, c463_3, e463, hx463_0, hx463_1, hx463_2, hx463_3, hl463_3, hi463_3⟩ := at_T35 HR0.out x5_1 p463 q463
           obtain rfl : ad459 = ad463 := (by injection e463)
           have HR463_3 := Aside0.mk hi463_3
           have HC463_3 := Aside0.mk hl463_3
           clear hi463_3 hl463_3
           replace p463 := eq_true p463
           replace q463 := eq_true q463
           have ea_ := Option.some.inj (hx459_3.symm.trans hx463_3)
           injection ea_ with ea_ en_ ec_
           subst ea_
           subst ec_
           clear en_
           have p464 : 0 ≤ (x5_1 : Int) := of_decide_eq_true (by first | (with_reducible assumption) | assumption)
           have q464 : x5_1 < (l1.length : Int) := of_decide_eq_true (by first | (with_reducible assumption) | assumption)
           obtain ⟨ad464, A464_3, c464_3, e464, hx464_0, hx464_1, hx464_2, hx464_3, hl464_3, hi464_3⟩ := at_T35 HR1.out x5_1 p464 q464
           obtain rfl : ad460 = ad464 := (by injection e464)
           have HR464_3 := Aside0.mk hi464_3
           have HC464_3 := Aside0.mk hl464_3
           clear hi464_3 hl464_3
           replace p464 := eq_true p464
           replace q464 := eq_true q464
           have ea_ := Option.some.inj (hx460_3.symm.trans hx464_3)
           injection ea_ with ea_ en_ ec_
           subst ea_
           subst ec_
           clear en_
           have p465 : 0 ≤ (x5_1 : Int) := of_decide_eq_true (by first | (with_reducible assumption) | assumption)
           have q465 : x5_1 < (l0.length : Int) := of_decide_eq_true (by first | (with_reducible assumption) | assumption)
           obtain ⟨ad465, A465_3, c465_3, e465, hx465_0, hx465_1, hx465_2, hx465_3, hl465_3, hi465_3⟩ := at_T35 HR0.out x5_1 p465 q465
           obtain rfl : ad459 = ad465 := (by injection e465)
           have HR465_3 := Aside0.mk hi465_3
           have HC465_3 := Aside0.mk hl465_3
           clear hi465_3 hl465_3
           replace p465 := eq_true p465
           replace q465 := eq_true q465
           have ea_ := Option.some.inj (hx459_3.symm.trans hx465_3)
           injection ea_ with ea_ en_ ec_
           subst ea_
           subst ec_
           clear en_
           have hcv11 := Kd.C_string (P := Try.prog) (A := A459_3) (c := c459_3) Try.underlying33 Try.underlying5 Try.underlying9 HR465_3.out
           have hq11 := fun n => Kd.C_string (P := Try.prog) (A := A459_3) (c := c459_3) Try.underlying33 Try.underlying5 Try.underlying9 (Kd.C_drewN (HR465_3.out) n)
           have p466 : 0 ≤ (x5_1 : Int) := of_decide_eq_true (by first | (with_reducible assumption) | assumption)
           have q466 : x5_1 < (l1.length : Int) := of_decide_eq_true (by first | (with_reducible assumption) | assumption)
           obtain ⟨ad466, A466_3, c466_3, e466, hx466_0, hx466_1, hx466_2, hx466_3, hl466_3, hi466_3⟩ := at_T35 HR1.out x5_1 p466 q466
           obtain rfl : ad460 = ad466 := (by injection e466)
           have HR466_3 := Aside0.mk hi466_3
           have HC466_3 := Aside0.mk hl466_3
           clear hi466_3 hl466_3
           replace p466 := eq_true p466
           replace q466 := eq_true q466
           have ea_ := Option.some.inj (hx460_3.symm.trans hx466_3)
           injection ea_ with ea_ en_ ec_
           subst ea_
           subst ec_
           clear en_
           have hcv12 := Kd.C_string (P := Try.prog) (A := A460_3) (c := c460_3) Try.underlying33 Try.underlying5 Try.underlying9 HR466_3.out
           have hq12 := fun n => Kd.C_string (P := Try.prog) (A := A460_3) (c := c460_3) Try.underlying33 Try.underlying5 Try.underlying9 (Kd.C_drewN (HR466_3.out) n)
           go_wp2
           repeat (go_quiet ((first | (rintro ⟨n_, rfl⟩; exact hq11 n_) | (rintro ⟨n_, rfl⟩; exact hq12 n_) | (intro hS_; obtain ⟨n_, rfl⟩ := hS_; exact hq11 n_) | (intro hS_; obtain ⟨n_, rfl⟩ := hS_; exact hq12 n_))); try go_wp2)
           go_roundg k1
           case measure => have := HK1.out; omega
           case rel => exact ⟨(wrap64 (x5_1 + 1)), (by first | rfl | (simp; done) | (simp [*]; done)), H', ⟨by have := HK1.out; omega⟩, by repeat (first | exact Drawn0.refl _ | apply Drawn0.step)⟩
          ·
           rw [if_neg c10] at H
           have c10b0 : ((strOfNums ((rd_T35 l0 x5_1).f3)).toList == (strOfNums ((rd_T35 l1 x5_1).f3)).toList) = false := beq_eq_false_iff_ne.mpr c10
           have c10b1 : ((strOfNums ((rd_T35 l0 x5_1).f3)).toList != (strOfNums ((rd_T35 l1 x5_1).f3)).toList) = true := bne_iff_ne.mpr c10
           obtain rfl := Option.some.inj H
           have p459 : 0 ≤ (x5_1 : Int) := of_decide_eq_true (by first | (with_reducible assumption) | assumption)
           have q459 : x5_1 < (l0.length : Int) := of_decide_eq_true (by first | (with_reducible assumption) | assumption)
           obtain ⟨ad459, A459_3, c459_3, e459, hx459_0, hx459_1, hx459_2, hx459_3, hl459_3, hi459_3⟩ := at_T35 HR0.out x5_1 p459 q459
           cases e459
           have HR459_3 := Aside0.mk hi459_3
           have HC459_3 := Aside0.mk hl459_3
           clear hi459_3 hl459_3
           replace p459 := eq_true p459
           replace q459 := eq_true q459
           have p460 : 0 ≤ (x5_1 : Int) := of_decide_eq_true (by first | (with_reducible assumption) | assumption)
           have q460 : x5_1 < (l1.length : Int) := of_decide_eq_true (by first | (with_reducible assumption) | assumption)
           obtain ⟨ad460, A460_3, c460_3, e460, hx460_0, hx460_1, hx460_2, hx460_3, hl460_3, hi460_3⟩ := at_T35 HR1.out x5_1 p460 q460
           cases e460
           have HR460_3 := Aside0.mk hi460_3
           have HC460_3 := Aside0.mk hl460_3
           clear hi460_3 hl460_3
           replace p460 := eq_true p460
           replace q460 := eq_true q460
           have p461 : 0 ≤ (x5_1 : Int) := of_decide_eq_true (by first | (with_reducible assumption) | assumption)
           have q461 : x5_1 < (l0.length : Int) := of_decide_eq_true (by first | (with_reducible assumption) | assumption)
           obtain ⟨ad461, A461_3, c461_3, e461, hx461_0, hx461_1, hx461_2, hx461_3, hl461_3, hi461_3⟩ := at_T35 HR0.out x5_1 p461 q461
           obtain rfl : ad459 = ad461 := (by injection e461)
           have HR461_3 := Aside0.mk hi461_3
           have HC461_3 := Aside0.mk hl461_3
           clear hi461_3 hl461_3
           replace p461 := eq_true p461
           replace q461 := eq_true q461
           have ea_ := Option.some.inj (hx459_3.symm.trans hx461_3)
           injection ea_ with ea_ en_ ec_
           subst ea_
           subst ec_
           clear en_
           have p462 : 0 ≤ (x5_1 : Int) := of_decide_eq_true (by first | (with_reducible assumption) | assumption)
           have q462 : x5_1 < (l1.length : Int) := of_decide_eq_true (by first | (with_reducible assumption) | assumption)
           obtain ⟨ad462, A462_3, c462_3, e462, hx462_0, hx462_1, hx462_2, hx462_3, hl462_3, hi462_3⟩ := at_T35 HR1.out x5_1 p462 q462
           obtain rfl : ad460 = ad462 := (by injection e462)
           have HR462_3 := Aside0.mk hi462_3
           have HC462_3 := Aside0.mk hl462_3
           clear hi462_3 hl462_3
           replace p462 := eq_true p462
           replace q462 := eq_true q462
           have ea_ := Option.some.inj (hx460_3.symm.trans hx462_3)
           injection ea_ with ea_ en_ ec_
           subst ea_
           subst ec_
           clear en_
           have p463 : 0 ≤ (x5_1 : Int) := of_decide_eq_true (by first | (with_reducible assumption) | assumption)
           have q463 : x5_1 < (l0.length : Int) := of_decide_eq_true (by first | (with_reducible assumption) | assumption)
           obtain ⟨ad463, A463_3, c463_3, e463, hx463_0, hx463_1, hx463_2, hx463_3, hl463_3, hi463_3⟩ := at_T35 HR0.out x5_1 p463 q463
           obtain rfl : ad459 = ad463 := (by injection e463)
           have HR463_3 := Aside0.mk hi463_3
           have HC463_3 := Aside0.mk hl463_3
           clear hi463_3 hl463_3
           replace p463 := eq_true p463
           replace q463 := eq_true q463
           have ea_ := Option.some.inj (hx459_3.symm.trans hx463_3)
           injection ea_ with ea_ en_ ec_
           subst ea_
           subst ec_
           clear en_
           have p464 : 0 ≤ (x5_1 : Int) := of_decide_eq_true (by first | (with_reducible assumption) | assumption)
           have q464 : x5_1 < (l1.length : Int) := of_decide_eq_true (by first | (with_reducible assumption) | assumption)
           obtain ⟨ad464, A464_3, c464_3, e464, hx464_0, hx464_1, hx464_2, hx464_3, hl464_3, hi464_3⟩ := at_T35 HR1.out x5_1 p464 q464
           obtain rfl : ad460 = ad464 := (by injection e464)
           have HR464_3 := Aside0.mk hi464_3
           have HC464_3 := Aside0.mk hl464_3
           clear hi464_3 hl464_3
           replace p464 := eq_true p464
           replace q464 := eq_true q464
           have ea_ := Option.some.inj (hx460_3.symm.trans hx464_3)
           injection ea_ with ea_ en_ ec_
           subst ea_
           subst ec_
           clear en_
           have p465 : 0 ≤ (x5_1 : Int) := of_decide_eq_true (by first | (with_reducible assumption) | assumption)
           have q465 : x5_1 < (l0.length : Int) := of_decide_eq_true (by first | (with_reducible assumption) | assumption)
           obtain ⟨ad465, A465_3, c465_3, e465, hx465_0, hx465_1, hx465_2, hx465_3, hl465_3, hi465_3⟩ := at_T35 HR0.out x5_1 p465 q465
           obtain rfl : ad459 = ad465 := (by injection e465)
           have HR465_3 := Aside0.mk hi465_3
           have HC465_3 := Aside0.mk hl465_3
           clear hi465_3 hl465_3
           replace p465 := eq_true p465
           replace q465 := eq_true q465
           have ea_ := Option.some.inj (hx459_3.symm.trans hx465_3)
           injection ea_ with ea_ en_ ec_
           subst ea_
           subst ec_
           clear en_
           have hcv13 := Kd.C_string (P := Try.prog) (A := A459_3) (c := c459_3) Try.underlying33 Try.underlying5 Try.underlying9 HR465_3.out
           have hq13 := fun n => Kd.C_string (P := Try.prog) (A := A459_3) (c := c459_3) Try.underlying33 Try.underlying5 Try.underlying9 (Kd.C_drewN (HR465_3.out) n)
           have p466 : 0 ≤ (x5_1 : Int) := of_decide_eq_true (by first | (with_reducible assumption) | assumption)
           have q466 : x5_1 < (l1.length : Int) := of_decide_eq_true (by first | (with_reducible assumption) | assumption)
           obtain ⟨ad466, A466_3, c466_3, e466, hx466_0, hx466_1, hx466_2, hx466_3, hl466_3, hi466_3⟩ := at_T35 HR1.out x5_1 p466 q466
           obtain rfl : ad460 = ad466 := (by injection e466)
           have HR466_3 := Aside0.mk hi466_3
           have HC466_3 := Aside0.mk hl466_3
           clear hi466_3 hl466_3
           replace p466 := eq_true p466
           replace q466 := eq_true q466
           have ea_ := Option.some.inj (hx460_3.symm.trans hx466_3)
           injection ea_ with ea_ en_ ec_
           subst ea_
           subst ec_
           clear en_
           have hcv14 := Kd.C_string (P := Try.prog) (A := A460_3) (c := c460_3) Try.underlying33 Try.underlying5 Try.underlying9 HR466_3.out
           have hq14 := fun n => Kd.C_string (P := Try.prog) (A := A460_3) (c := c460_3) Try.underlying33 Try.underlying5 Try.underlying9 (Kd.C_drewN (HR466_3.out) n)
           go_wp2
           repeat (go_quiet ((first | (rintro ⟨n_, rfl⟩; exact hq13 n_) | (rintro ⟨n_, rfl⟩; exact hq14 n_) | (intro hS_; obtain ⟨n_, rfl⟩ := hS_; exact hq13 n_) | (intro hS_; obtain ⟨n_, rfl⟩ := hS_; exact hq14 n_))); try go_wp2)
           go_ret
           exact ⟨by first | rfl | (simp; done) | (simp [*]; done), by repeat (first | exact Drawn0.refl _ | apply Drawn0.step)⟩
         ·
          rw [if_neg c9] at H
          have c9b0 : (((rd_T35 l0 x5_1).f2) == ((rd_T35 l1 x5_1).f2)) = false := beq_eq_false_iff_ne.mpr c9
          have c9b1 : (((rd_T35 l0 x5_1).f2) != ((rd_T35 l1 x5_1).f2)) = true := bne_iff_ne.mpr c9
          obtain rfl := Option.some.inj H
          have p459 : 0 ≤ (x5_1 : Int) := of_decide_eq_true (by first | (with_reducible assumption) | assumption)
          have q459 : x5_1 < (l0.length : Int) := of_decide_eq_true (by first | (with_reducible assumption) | assumption)
          obtain ⟨ad459, A459_3, c459_3, e459, hx459_0, hx459_1, hx459_2, hx459_3, hl459_3, hi459_3⟩ := at_T35 HR0.out x5_1 p459 q459
          cases e459
          have HR459_3 := Aside0.mk hi459_3
          have HC459_3 := Aside0.mk hl459_3
          clear hi459_3 hl459_3
          replace p459 := eq_true p459
          replace q459 := eq_true q459
          have p460 : 0 ≤ (x5_1 : Int) := of_decide_eq_true (by first | (with_reducible assumption) | assumption)
          have q460 : x5_1 < (l1.length : Int) := of_decide_eq_true (by first | (with_reducible assumption) | assumption)
          obtain ⟨ad460, A460_3, c460_3, e460, hx460_0, hx460_1, hx460_2, hx460_3, hl460_3, hi460_3⟩ := at_T35 HR1.out x5_1 p460 q460
          cases e460
          have HR460_3 := Aside0.mk hi460_3
          have HC460_3 := Aside0.mk hl460_3
          clear hi460_3 hl460_3
          replace p460 := eq_true p460
          replace q460 := eq_true q460
          have p461 : 0 ≤ (x5_1 : Int) := of_decide_eq_true (by first | (with_reducible assumption) | assumption)
          have q461 : x5_1 < (l0.length : Int) := of_decide_eq_true (by first | (with_reducible assumption) | assumption)
          obtain ⟨ad461, A461_3, c461_3, e461, hx461_0, hx461_1, hx461_2, hx461_3, hl461_3, hi461_3⟩ := at_T35 HR0.out x5_1 p461 q461
          obtain rfl : ad459 = ad461 := (by injection e461)
          have HR461_3 := Aside0.mk hi461_3
          have HC461_3 := Aside0.mk hl461_3
          clear hi461_3 hl461_3
          replace p461 := eq_true p461
          replace q461 := eq_true q461
          have ea_ := Option.some.inj (hx459_3.symm.trans hx461_3)
          injection ea_ with ea_ en_ ec_
          subst ea_
          subst ec_
          clear en_
          have p462 : 0 ≤ (x5_1 : Int) := of_decide_eq_true (by first | (with_reducible assumption) | assumption)
          have q462 : x5_1 < (l1.length : Int) := of_decide_eq_true (by first | (with_reducible assumption) | assumption)
          obtain ⟨ad462, A462_3, c462_3, e462, hx462_0, hx462_1, hx462_2, hx462_3, hl462_3, hi462_3⟩ := at_T35 HR1.out x5_1 p462 q462
          obtain rfl : ad460 = ad462 := (by injection e462)
          have HR462_3 := Aside0.mk hi462_3
          have HC462_3 := Aside0.mk hl462_3
          clear hi462_3 hl462_3
          replace p462 := eq_true p462
          replace q462 := eq_true q462
          have ea_ := Option.some.inj (hx460_3.symm.trans hx462_3)
          injection ea_ with ea_ en_ ec_
          subst ea_
          subst ec_
          clear en_
          have p463 : 0 ≤ (x5_1 : Int) := of_decide_eq_true (by first | (with_reducible assumption) | assumption)
          have q463 : x5_1 < (l0.length : Int) := of_decide_eq_true (by first | (with_reducible assumption) | assumption)
          obtain ⟨ad463, A463_3, c463_3, e463, hx463_0, hx463_1, hx463_2, hx463_3, hl463_3, hi463_3⟩ := at_T35 HR0.out x5_1 p463 q463
          obtain rfl : ad459 = ad463 := (by injection e463)
          have HR463_3 := Aside0.mk hi463_3
          have HC463_3 := Aside0.mk hl463_3
          clear hi463_3 hl463_3
          replace p463 := eq_true p463
          replace q463 := eq_true q463
          have ea_ := Option.some.inj (hx459_3.symm.trans hx463_3)
          injection ea_ with ea_ en_ ec_
          subst ea_
          subst ec_
          clear en_
          have p464 : 0 ≤ (x5_1 : Int) := of_decide_eq_true (by first | (with_reducible assumption) | assumption)
          have q464 : x5_1 < (l1.length : Int) := of_decide_eq_true (by first | (with_reducible assumption) | assumption)
          obtain ⟨ad464, A464_3, c464_3, e464, hx464_0, hx464_1, hx464_2, hx464_3, hl464_3, hi464_3⟩ := at_T35 HR1.out x5_1 p464 q464
          obtain rfl : ad460 = ad464 := (by injection e464)
          have HR464_3 := Aside0.mk hi464_3
          have HC464_3 := Aside0.mk hl464_3
          clear hi464_3 hl464_3
          replace p464 := eq_true p464
          replace q464 := eq_true q464
          have ea_ := Option.some.inj (hx460_3.symm.trans hx464_3)
          injection ea_ with ea_ en_ ec_
          subst ea_
          subst ec_
          clear en_
          go_wp2
          repeat (go_quiet (fail); try go_wp2)
          go_ret
          exact ⟨by first | rfl | (simp; done) | (simp [*]; done), by repeat (first | exact Drawn0.refl _ | apply Drawn0.step)⟩
        ·
         rw [if_neg c8] at H
         have c8b0 : (((rd_T35 l0 x5_1).f1) == ((rd_T35 l1 x5_1).f1)) = false := beq_eq_false_iff_ne.mpr c8
         have c8b1 : (((rd_T35 l0 x5_1).f1) != ((rd_T35 l1 x5_1).f1)) = true := bne_iff_ne.mpr c8
         obtain rfl := Option.some.inj H
         have p459 : 0 ≤ (x5_1 : Int) := of_decide_eq_true (by first | (with_reducible assumption) | assumption)
         have q459 : x5_1 < (l0.length : Int) := of_decide_eq_true (by first | (with_reducible assumption) | assumption)
         obtain ⟨ad459, A459_3, c459_3, e459, hx459_0, hx459_1, hx459_2, hx459_3, hl459_3, hi459_3⟩ := at_T35 HR0.out x5_1 p459 q459
         cases e459
         have HR459_3 := Aside0.mk hi459_3
         have HC459_3 := Aside0.mk hl459_3
         clear hi459_3 hl459_3
         replace p459 := eq_true p459
         replace q459 := eq_true q459
         have p460 : 0 ≤ (x5_1 : Int) := of_decide_eq_true (by first | (with_reducible assumption) | assumption)
         have q460 : x5_1 < (l1.length : Int) := of_decide_eq_true (by first | (with_reducible assumption) | assumption)
         obtain ⟨ad460, A460_3, c460_3, e460, hx460_0, hx460_1, hx460_2, hx460_3, hl460_3, hi460_3⟩ := at_T35 HR1.out x5_1 p460 q460
         cases e460
         have HR460_3 := Aside0.mk hi460_3
         have HC460_3 := Aside0.mk hl460_3
         clear hi460_3 hl460_3
         replace p460 := eq_true p460
         replace q460 := eq_true q460
         have p461 : 0 ≤ (x5_1 : Int) := of_decide_eq_true (by first | (with_reducible assumption) | assumption)
         have q461 : x5_1 < (l0.length : Int) := of_decide_eq_true (by first | (with_reducible assumption) | assumption)
         obtain ⟨ad461, A461_3, c461_3, e461, hx461_0, hx461_1, hx461_2, hx461_3, hl461_3, hi461_3⟩ := at_T35 HR0.out x5_1 p461 q461
         obtain rfl : ad459 = ad461 := (by injection e461)
         have HR461_3 := Aside0.mk hi461_3
         have HC461_3 := Aside0.mk hl461_3
         clear hi461_3 hl461_3
         replace p461 := eq_true p461
         replace q461 := eq_true q461
         have ea_ := Option.some.inj (hx459_3.symm.trans hx461_3)
         injection ea_ with ea_ en_ ec_
         subst ea_
         subst ec_
         clear en_
         have p462 : 0 ≤ (x5_1 : Int) := of_decide_eq_true (by first | (with_reducible assumption) | assumption)
         have q462 : x5_1 < (l1.length : Int) := of_decide_eq_true (by first | (with_reducible assumption) | assumption)
         obtain ⟨ad462, A462_3, c462_3, e462, hx462_0, hx462_1, hx462_2, hx462_3, hl462_3, hi462_3⟩ := at_T35 HR1.out x5_1 p462 q462
         obtain rfl : ad460 = ad462 := (by injection e462)
         have HR462_3 := Aside0.mk hi462_3
         have HC462_3 := Aside0.mk hl462_3
         clear hi462_3 hl462_3
         replace p462 := eq_true p462
         replace q462 := eq_true q462
         have ea_ := Option.some.inj (hx460_3.symm.trans hx462_3)
         injection ea_ with ea_ en_ ec_
         subst ea_
         subst ec_
         clear en_
         go_wp2
         repeat (go_quiet (fail); try go_wp2)
         go_ret
         exact ⟨by first | rfl | (simp; done) | (simp [*]; done), by repeat (first | exact Drawn0.refl _ | apply Drawn0.step)⟩
       ·
        rw [if_neg c7] at H
        have c7b0 : (((rd_T35 l0 x5_1).f0) == ((rd_T35 l1 x5_1).f0)) = false := beq_eq_false_iff_ne.mpr c7
        have c7b1 : (((rd_T35 l0 x5_1).f0) != ((rd_T35 l1 x5_1).f0)) = true := bne_iff_ne.mpr c7
        obtain rfl := Option.some.inj H
        have p459 : 0 ≤ (x5_1 : Int) := of_decide_eq_true (by first | (with_reducible assumption) | assumption)
        have q459 : x5_1 < (l0.length : Int) := of_decide_eq_true (by first | (with_reducible assumption) | assumption)
        obtain ⟨ad459, A459_3, c459_3, e459, hx459_0, hx459_1, hx459_2, hx459_3, hl459_3, hi459_3⟩ := at_T35 HR0.out x5_1 p459 q459
        cases e459
        have HR459_3 := Aside0.mk hi459_3
        have HC459_3 := Aside0.mk hl459_3
        clear hi459_3 hl459_3
        replace p459 := eq_true p459
        replace q459 := eq_true q459
        have p460 : 0 ≤ (x5_1 : Int) := of_decide_eq_true (by first | (with_reducible assumption) | assumption)
        have q460 : x5_1 < (l1.length : Int) := of_decide_eq_true (by first | (with_reducible assumption) | assumption)
        obtain ⟨ad460, A460_3, c460_3, e460, hx460_0, hx460_1, hx460_2, hx460_3, hl460_3, hi460_3⟩ := at_T35 HR1.out x5_1 p460 q460
        cases e460
        have HR460_3 := Aside0.mk hi460_3
        have HC460_3 := Aside0.mk hl460_3
        clear hi460_3 hl460_3
        replace p460 := eq_true p460
        replace q460 := eq_true q460
        go_wp2
        repeat (go_quiet (fail); try go_wp2)
        go_ret
        exact ⟨by first | rfl | (simp; done) | (simp [*]; done), by repeat (first | exact Drawn0.refl _ | apply Drawn0.step)⟩
      ·
       rw [if_neg c6] at H
       exact absurd H (by simp)
     ·
      rw [if_neg c5] at H
      exact absurd H (by simp)
    ·
     rw [if_neg c4] at H
     have c4b0 : decide (x5_1 < (l0.length : Int)) = false := decide_eq_false c4
     clear c4
     obtain rfl := Option.some.inj H
     go_wp2
     repeat (go_quiet (fail); try go_wp2)
     go_ret
     exact ⟨by first | rfl | (simp; done) | (simp [*]; done), by repeat (first | exact Drawn0.refl _ | apply Drawn0.step)⟩
 ·
  rw [if_neg c3] at H
  have c3b0 : ((l0.length : Int) == (l1.length : Int)) = false := beq_eq_false_iff_ne.mpr c3
  have c3b1 : ((l0.length : Int) != (l1.length : Int)) = true := bne_iff_ne.mpr c3
  have c3b2 : (l0.length == l1.length) = false := by first | simpa using c3 | (simp at c3 ⊢; omega)
  obtain rfl := Option.some.inj H
  go_enter Try.func29, Try.ntmps29
  go_wp2
  repeat (go_quiet (fail); try go_wp2)
  go_ret
  exact ⟨by first | rfl | (simp; done) | (simp [*]; done), by repeat (first | exact Drawn0.refl _ | apply Drawn0.step)⟩

end Go.Proofs.Ytcnmocbiekfpbaa.P

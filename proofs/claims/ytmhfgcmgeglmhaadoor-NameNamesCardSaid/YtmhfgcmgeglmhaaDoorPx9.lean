-- Written by a program of this session, after the kit's print.
import Derived.Test.YtmhfgcmgeglmhaaDoorP21J
import Derived.Test.YtmhfgcmgeglmhaaDoorP21I
import Derived.Test.YtmhfgcmgeglmhaaDoorPx0
import Derived.Test.YtmhfgcmgeglmhaaDoorPx1
import Derived.Test.YtmhfgcmgeglmhaaDoorPx4
import Derived.Test.YtmhfgcmgeglmhaaDoorPx5
import Derived.Test.YtmhfgcmgeglmhaaDoorPx6
import Derived.Test.YtmhfgcmgeglmhaaDoorPx8
namespace Go.Proofs.YtmhfgcmgeglmhaaDoor.P
open Go.RowKit Go.Proofs.YtmhfgcmgeglmhaaDoorW.PrintWords Go.Proofs.YtmhfgcmgeglmhaaDoorW.PrintLast Go.Proofs.YtmhfgcmgeglmhaaDoorW.PrintMore
attribute [local go_sem] max2_int min2_int max_two min_two max_three min_three max_four min_four   -- for this text's walks alone
set_option linter.unusedVariables false
set_option linter.unusedSimpArgs false

/-! ### twoslotlaw21_NameTexts: function 4 -/
def twoslotlaw21_NameTexts.j0 : Nat → ByteArray → ByteArray → Bool → Option (Bool)
  | 0, _, _, _ => none
  | k + 1, x0, x1, x30 => if x30 = true then (some true) else ((name_Bucket.f k x0).bind fun bt246 => ((name_Quote.f x0).bind fun bt248 => ((name_Plain.f x1).bind fun bt250 => ((twoslotref21_Bucket.f k x0).bind fun bt253 => ((twoslotref21_Quote.f k x0).bind fun bt255 => ((twoslotref21_Plain.f k x1).bind fun bt257 => ((name_Check.f x0).bind fun t260 => ((twoslotref21_Check.f x0).bind fun t261 => (if t260 = t261 then ((name_Less.f x0 x1).bind fun t262 => ((twoslotref21_Less.f k x0 x1).bind fun t263 => (if (t262 == t263) = true then (if bt246.1 = bt253.1 then (if bt248.1.toList = bt255.1.toList then (if bt250.1.toList = bt257.1.toList then (if bt250.2.1 = bt257.2.1 then (if bt246.2 = bt253.2 then (if bt248.2 = bt255.2 then (some (bt250.2.2 == bt257.2.2)) else (none)) else (none)) else (none)) else (none)) else (none)) else (none)) else (none)))) else (none))))))))))
def twoslotlaw21_NameTexts.f (k : Nat) (a0 : ByteArray) (a1 : ByteArray) : Option (Bool) := (twoslotlaw21_alive.f k).bind fun t245 => (if t245 = true then (if (a0.size : Int) > 5000 then (twoslotlaw21_NameTexts.j0 k a0 a1 true) else (twoslotlaw21_NameTexts.j0 k a0 a1 (decide ((a1.size : Int) > 5000)))) else (none))
theorem twoslotlaw21_NameTexts.mono_l : ∀ k, (∀ y0 y1 y2, LeO (twoslotlaw21_NameTexts.j0 k y0 y1 y2) (twoslotlaw21_NameTexts.j0 (k + 1) y0 y1 y2))
  | 0 => fun _ _ _ r h => by simp [twoslotlaw21_NameTexts.j0] at h
  | k + 1 => by
    have ih0 := twoslotlaw21_NameTexts.mono_l k
    · intro y0 y1 y2
      unfold twoslotlaw21_NameTexts.j0
      repeat' first
      | (with_reducible exact ih0 _ _ _)
      | (with_reducible exact name_Bucket.mono _ _)
      | (with_reducible exact twoslotlaw21_alive.mono _)
      | (with_reducible exact twoslotref21_Bucket.mono _ _)
      | (with_reducible exact twoslotref21_Less.mono _ _ _)
      | (with_reducible exact twoslotref21_Plain.mono _ _)
      | (with_reducible exact twoslotref21_Quote.mono _ _)
      | (with_reducible exact LeO.refl _)
      | (with_reducible exact LeO.none _)
      | (with_reducible refine LeO.ite ?_ ?_)
      | (with_reducible refine LeO.bind ?_ (fun _ => ?_))
      | exact ih0 _ _ _
      | exact name_Bucket.mono _ _
      | exact twoslotlaw21_alive.mono _
      | exact twoslotref21_Bucket.mono _ _
      | exact twoslotref21_Less.mono _ _ _
      | exact twoslotref21_Plain.mono _ _
      | exact twoslotref21_Quote.mono _ _
      | exact LeO.none _
      | refine LeO.ite ?_ ?_
      | refine LeO.bind ?_ (fun _ => ?_)
theorem twoslotlaw21_NameTexts.mono : ∀ a0 a1 k, LeO (twoslotlaw21_NameTexts.f k a0 a1) (twoslotlaw21_NameTexts.f (k + 1) a0 a1) := by
  intro a0 a1 k
  have ih0 := twoslotlaw21_NameTexts.mono_l k
  unfold twoslotlaw21_NameTexts.f
  repeat' first
      | (with_reducible exact ih0 _ _ _)
      | (with_reducible exact name_Bucket.mono _ _)
      | (with_reducible exact twoslotlaw21_alive.mono _)
      | (with_reducible exact twoslotref21_Bucket.mono _ _)
      | (with_reducible exact twoslotref21_Less.mono _ _ _)
      | (with_reducible exact twoslotref21_Plain.mono _ _)
      | (with_reducible exact twoslotref21_Quote.mono _ _)
      | (with_reducible exact LeO.refl _)
      | (with_reducible exact LeO.none _)
      | (with_reducible refine LeO.ite ?_ ?_)
      | (with_reducible refine LeO.bind ?_ (fun _ => ?_))
      | exact ih0 _ _ _
      | exact name_Bucket.mono _ _
      | exact twoslotlaw21_alive.mono _
      | exact twoslotref21_Bucket.mono _ _
      | exact twoslotref21_Less.mono _ _ _
      | exact twoslotref21_Plain.mono _ _
      | exact twoslotref21_Quote.mono _ _
      | exact LeO.none _
      | refine LeO.ite ?_ ?_
      | refine LeO.bind ?_ (fun _ => ?_)
set_option maxHeartbeats 8000000 in
set_option maxRecDepth 100000 in
theorem twoslotlaw21_NameTexts.calls (k : Nat) (a0 : ByteArray) (a1 : ByteArray) (r : Bool) (w : World) (hV : VarsOk w) (h : twoslotlaw21_NameTexts.f k a0 a1 = some r) :
    Calls Tryd.prog 4 #[.string a0, .string a1] w fun e w' => e = .returned (.bool r) ∧ Below w.heap.size w w' := by
  have HV := Aside0.mk hV
  clear hV
  have HB := Aside0.mk (Below.refl w.heap.size w)
  have H : ((twoslotlaw21_alive.f k).bind fun t245 => (if t245 = true then (if (a0.size : Int) > 5000 then (twoslotlaw21_NameTexts.j0 k a0 a1 true) else (twoslotlaw21_NameTexts.j0 k a0 a1 (decide ((a1.size : Int) > 5000)))) else (none))) = some r := h
  clear h
  replace H := Option.bind_eq_some_iff.mp H
  obtain ⟨t245, A30, H⟩ := H
  replace H : (if t245 = true then (if (a0.size : Int) > 5000 then (twoslotlaw21_NameTexts.j0 k a0 a1 true) else (twoslotlaw21_NameTexts.j0 k a0 a1 (decide ((a1.size : Int) > 5000)))) else (none)) = some r := H
  have A3 := Aside0.mk A30
  clear A30
  by_cases c4 : t245 = true
  · subst c4
    have H1 : (if (a0.size : Int) > 5000 then (twoslotlaw21_NameTexts.j0 k a0 a1 true) else (twoslotlaw21_NameTexts.j0 k a0 a1 (decide ((a1.size : Int) > 5000)))) = some r := by rw [if_pos rfl] at H; exact H
    clear H
    have H := H1
    clear H1
    have HC5 := Aside0.mk H
    clear H
    go_enter Tryd.func4, Tryd.ntmps4
    go_upto_region 4 with (first | ((with_reducible refine gate_callee (f := 9) rfl ?_); refine goesL_ (some 20) rfl rfl Tryd.func9 (by kernel_rfl) rfl #[] rfl (by (try simp only [List.map_toArray, List.map_cons, List.map_nil]); first | done | rfl | (simp only [List.length_drop, List.length_take]; rfl)) ?_; (with_reducible refine (twoslotlaw21_alive.calls k  true _ (HV.out.below (by repeat (first | (with_reducible first | exact HB.out | apply below_alloc | apply pw_below_drewN | apply below_drew1) | exact HB.out | exact Below.refl _ _))) A3.out).mono ?_); rintro e w6 ⟨rfl, hb⟩; refine ⟨_, rfl, ?_⟩; have n0_ := Aside0.mk (below_step (by repeat (first | (with_reducible first | exact HB.out | apply below_alloc | apply pw_below_drewN | apply below_drew1) | exact HB.out)) hb); clear HB; have HB := n0_; clear n0_; (try clear hb); (try clear hb2); (try clear hk); (try clear hi)))
    (try simp only [Act.put, List.setIfInBounds_toArray, List.set_cons_zero, List.set_cons_succ])
    go_cut [30] (fun v30 wc => ∃ (kq : Nat) (x30_4 : Bool), v30 = .bool x30_4 ∧ Aside0 (twoslotlaw21_NameTexts.j0 kq a0 a1 x30_4 = some r) ∧ Aside0 (kq ≤ k) ∧ Aside0 (Below w.heap.size w wc))
    case first =>
      have H := HC5.out
      clear HC5
      by_cases c7 : (a0.size : Int) > 5000
      · rw [if_pos c7] at H
        have c7b0 : decide (5000 < (a0.size : Int)) = true := decide_eq_true c7
        have c7b1 : decide (5000 < a0.size) = true := decide_eq_true (by omega)
        clear c7
        (first | rw [c7b0] | (simp only [i64_w, i32_w]; rw [c7b0]) | skip)
        have H' := Aside0.mk H
        clear H
        go_wp2
        go_meet
        case rel => exact ⟨_, (true), (by first | rfl | (simp; done) | (simp [*]; done)), H', ⟨by first | omega | exact Nat.le_refl _⟩, ⟨by repeat (first | (with_reducible first | exact HB.out | apply below_alloc | apply pw_below_drewN | apply below_drew1) | exact HB.out)⟩⟩
      · rw [if_neg c7] at H
        have c7b0 : decide (5000 < (a0.size : Int)) = false := decide_eq_false c7
        have c7b1 : decide (5000 < a0.size) = false := decide_eq_false (by omega)
        clear c7
        (first | rw [c7b0] | (simp only [i64_w, i32_w]; rw [c7b0]) | skip)
        have H' := Aside0.mk H
        clear H
        go_wp2
        go_meet
        case rel => exact ⟨_, (decide ((a1.size : Int) > 5000)), (by first | rfl | (simp; done) | (simp [*]; done)), H', ⟨by first | omega | exact Nat.le_refl _⟩, ⟨by repeat (first | (with_reducible first | exact HB.out | apply below_alloc | apply pw_below_drewN | apply below_drew1) | exact HB.out)⟩⟩
    case rest =>
      clear HC5
      try clear p2
      try clear c4
      try clear c7
      try clear c7b0
      try clear c7b1
      obtain ⟨kq, x30_4, rfl, HA, HJ4, HB⟩ := hcut
      cases kq with
      | zero => exact absurd HA.out (by simp [twoslotlaw21_NameTexts.j0])
      | succ kj4 =>
        have H := HA.out
        clear HA
        simp only [twoslotlaw21_NameTexts.j0] at H
        by_cases c8 : x30_4 = true
        · subst c8
          have H1 : (some true) = some r := by rw [if_pos rfl] at H; exact H
          clear H
          have H := H1
          clear H1
          obtain rfl := Option.some.inj H
          go_wp2
          go_ret
          exact ⟨by first | rfl | (simp [errW_none, errW_some] <;> rfl) | (simp [*, errW_none, errW_some] <;> rfl), by repeat (first | (with_reducible first | exact HB.out | apply below_alloc | apply pw_below_drewN | apply below_drew1) | exact HB.out)⟩
        · replace c8 := Bool.eq_false_iff.mpr c8
          subst c8
          have H1 : ((name_Bucket.f kj4 a0).bind fun bt246 => ((name_Quote.f a0).bind fun bt248 => ((name_Plain.f a1).bind fun bt250 => ((twoslotref21_Bucket.f kj4 a0).bind fun bt253 => ((twoslotref21_Quote.f kj4 a0).bind fun bt255 => ((twoslotref21_Plain.f kj4 a1).bind fun bt257 => ((name_Check.f a0).bind fun t260 => ((twoslotref21_Check.f a0).bind fun t261 => (if t260 = t261 then ((name_Less.f a0 a1).bind fun t262 => ((twoslotref21_Less.f kj4 a0 a1).bind fun t263 => (if (t262 == t263) = true then (if bt246.1 = bt253.1 then (if bt248.1.toList = bt255.1.toList then (if bt250.1.toList = bt257.1.toList then (if bt250.2.1 = bt257.2.1 then (if bt246.2 = bt253.2 then (if bt248.2 = bt255.2 then (some (bt250.2.2 == bt257.2.2)) else (none)) else (none)) else (none)) else (none)) else (none)) else (none)) else (none)))) else (none)))))))))) = some r := by rw [if_neg (show ¬ (false = true) by decide)] at H; exact H
          clear H
          have H := H1
          clear H1
          replace H := Option.bind_eq_some_iff.mp H
          obtain ⟨⟨t246, t247⟩, A90, H⟩ := H
          replace H : ((name_Quote.f a0).bind fun bt248 => ((name_Plain.f a1).bind fun bt250 => ((twoslotref21_Bucket.f kj4 a0).bind fun bt253 => ((twoslotref21_Quote.f kj4 a0).bind fun bt255 => ((twoslotref21_Plain.f kj4 a1).bind fun bt257 => ((name_Check.f a0).bind fun t260 => ((twoslotref21_Check.f a0).bind fun t261 => (if t260 = t261 then ((name_Less.f a0 a1).bind fun t262 => ((twoslotref21_Less.f kj4 a0 a1).bind fun t263 => (if (t262 == t263) = true then (if t246 = bt253.1 then (if bt248.1.toList = bt255.1.toList then (if bt250.1.toList = bt257.1.toList then (if bt250.2.1 = bt257.2.1 then (if t247 = bt253.2 then (if bt248.2 = bt255.2 then (some (bt250.2.2 == bt257.2.2)) else (none)) else (none)) else (none)) else (none)) else (none)) else (none)) else (none)))) else (none))))))))) = some r := H
          have A9 := Aside0.mk A90
          clear A90
          replace H := Option.bind_eq_some_iff.mp H
          obtain ⟨⟨t248, t249⟩, A100, H⟩ := H
          replace H : ((name_Plain.f a1).bind fun bt250 => ((twoslotref21_Bucket.f kj4 a0).bind fun bt253 => ((twoslotref21_Quote.f kj4 a0).bind fun bt255 => ((twoslotref21_Plain.f kj4 a1).bind fun bt257 => ((name_Check.f a0).bind fun t260 => ((twoslotref21_Check.f a0).bind fun t261 => (if t260 = t261 then ((name_Less.f a0 a1).bind fun t262 => ((twoslotref21_Less.f kj4 a0 a1).bind fun t263 => (if (t262 == t263) = true then (if t246 = bt253.1 then (if t248.toList = bt255.1.toList then (if bt250.1.toList = bt257.1.toList then (if bt250.2.1 = bt257.2.1 then (if t247 = bt253.2 then (if t249 = bt255.2 then (some (bt250.2.2 == bt257.2.2)) else (none)) else (none)) else (none)) else (none)) else (none)) else (none)) else (none)))) else (none)))))))) = some r := H
          have A10 := Aside0.mk A100
          clear A100
          replace H := Option.bind_eq_some_iff.mp H
          obtain ⟨⟨t250, t251, t252⟩, A110, H⟩ := H
          replace H : ((twoslotref21_Bucket.f kj4 a0).bind fun bt253 => ((twoslotref21_Quote.f kj4 a0).bind fun bt255 => ((twoslotref21_Plain.f kj4 a1).bind fun bt257 => ((name_Check.f a0).bind fun t260 => ((twoslotref21_Check.f a0).bind fun t261 => (if t260 = t261 then ((name_Less.f a0 a1).bind fun t262 => ((twoslotref21_Less.f kj4 a0 a1).bind fun t263 => (if (t262 == t263) = true then (if t246 = bt253.1 then (if t248.toList = bt255.1.toList then (if t250.toList = bt257.1.toList then (if t251 = bt257.2.1 then (if t247 = bt253.2 then (if t249 = bt255.2 then (some (t252 == bt257.2.2)) else (none)) else (none)) else (none)) else (none)) else (none)) else (none)) else (none)))) else (none))))))) = some r := H
          have A11 := Aside0.mk A110
          clear A110
          replace H := Option.bind_eq_some_iff.mp H
          obtain ⟨⟨t253, t254⟩, A120, H⟩ := H
          replace H : ((twoslotref21_Quote.f kj4 a0).bind fun bt255 => ((twoslotref21_Plain.f kj4 a1).bind fun bt257 => ((name_Check.f a0).bind fun t260 => ((twoslotref21_Check.f a0).bind fun t261 => (if t260 = t261 then ((name_Less.f a0 a1).bind fun t262 => ((twoslotref21_Less.f kj4 a0 a1).bind fun t263 => (if (t262 == t263) = true then (if t246 = t253 then (if t248.toList = bt255.1.toList then (if t250.toList = bt257.1.toList then (if t251 = bt257.2.1 then (if t247 = t254 then (if t249 = bt255.2 then (some (t252 == bt257.2.2)) else (none)) else (none)) else (none)) else (none)) else (none)) else (none)) else (none)))) else (none)))))) = some r := H
          have A12 := Aside0.mk A120
          clear A120
          replace H := Option.bind_eq_some_iff.mp H
          obtain ⟨⟨t255, t256⟩, A130, H⟩ := H
          replace H : ((twoslotref21_Plain.f kj4 a1).bind fun bt257 => ((name_Check.f a0).bind fun t260 => ((twoslotref21_Check.f a0).bind fun t261 => (if t260 = t261 then ((name_Less.f a0 a1).bind fun t262 => ((twoslotref21_Less.f kj4 a0 a1).bind fun t263 => (if (t262 == t263) = true then (if t246 = t253 then (if t248.toList = t255.toList then (if t250.toList = bt257.1.toList then (if t251 = bt257.2.1 then (if t247 = t254 then (if t249 = t256 then (some (t252 == bt257.2.2)) else (none)) else (none)) else (none)) else (none)) else (none)) else (none)) else (none)))) else (none))))) = some r := H
          have A13 := Aside0.mk A130
          clear A130
          replace H := Option.bind_eq_some_iff.mp H
          obtain ⟨⟨t257, t258, t259⟩, A140, H⟩ := H
          replace H : ((name_Check.f a0).bind fun t260 => ((twoslotref21_Check.f a0).bind fun t261 => (if t260 = t261 then ((name_Less.f a0 a1).bind fun t262 => ((twoslotref21_Less.f kj4 a0 a1).bind fun t263 => (if (t262 == t263) = true then (if t246 = t253 then (if t248.toList = t255.toList then (if t250.toList = t257.toList then (if t251 = t258 then (if t247 = t254 then (if t249 = t256 then (some (t252 == t259)) else (none)) else (none)) else (none)) else (none)) else (none)) else (none)) else (none)))) else (none)))) = some r := H
          have A14 := Aside0.mk A140
          clear A140
          replace H := Option.bind_eq_some_iff.mp H
          obtain ⟨t260, A150, H⟩ := H
          replace H : ((twoslotref21_Check.f a0).bind fun t261 => (if t260 = t261 then ((name_Less.f a0 a1).bind fun t262 => ((twoslotref21_Less.f kj4 a0 a1).bind fun t263 => (if (t262 == t263) = true then (if t246 = t253 then (if t248.toList = t255.toList then (if t250.toList = t257.toList then (if t251 = t258 then (if t247 = t254 then (if t249 = t256 then (some (t252 == t259)) else (none)) else (none)) else (none)) else (none)) else (none)) else (none)) else (none)))) else (none))) = some r := H
          have A15 := Aside0.mk A150
          clear A150
          replace H := Option.bind_eq_some_iff.mp H
          obtain ⟨t261, A160, H⟩ := H
          replace H : (if t260 = t261 then ((name_Less.f a0 a1).bind fun t262 => ((twoslotref21_Less.f kj4 a0 a1).bind fun t263 => (if (t262 == t263) = true then (if t246 = t253 then (if t248.toList = t255.toList then (if t250.toList = t257.toList then (if t251 = t258 then (if t247 = t254 then (if t249 = t256 then (some (t252 == t259)) else (none)) else (none)) else (none)) else (none)) else (none)) else (none)) else (none)))) else (none)) = some r := H
          have A16 := Aside0.mk A160
          clear A160
          by_cases c17 : t260 = t261
          · rw [if_pos c17] at H
            have c17b0 : (t260 == t261) = true := beq_iff_eq.mpr c17
            have c17b1 : (t260 != t261) = false := bne_eq_false_iff_eq.mpr c17
            clear c17
            replace H := Option.bind_eq_some_iff.mp H
            obtain ⟨t262, A180, H⟩ := H
            replace H : ((twoslotref21_Less.f kj4 a0 a1).bind fun t263 => (if (t262 == t263) = true then (if t246 = t253 then (if t248.toList = t255.toList then (if t250.toList = t257.toList then (if t251 = t258 then (if t247 = t254 then (if t249 = t256 then (some (t252 == t259)) else (none)) else (none)) else (none)) else (none)) else (none)) else (none)) else (none))) = some r := H
            have A18 := Aside0.mk A180
            clear A180
            replace H := Option.bind_eq_some_iff.mp H
            obtain ⟨t263, A190, H⟩ := H
            replace H : (if (t262 == t263) = true then (if t246 = t253 then (if t248.toList = t255.toList then (if t250.toList = t257.toList then (if t251 = t258 then (if t247 = t254 then (if t249 = t256 then (some (t252 == t259)) else (none)) else (none)) else (none)) else (none)) else (none)) else (none)) else (none)) = some r := H
            have A19 := Aside0.mk A190
            clear A190
            by_cases c20 : (t262 == t263) = true
            · rw [if_pos c20] at H
              have c20b0 : (t262 == t263) = true := c20
              (try (have c20b1 : decide (t262 = t263) = true := by simpa using c20))
              (try (have c20b2 : (t262 == t263) = true := by simpa using c20))
              clear c20
              by_cases c21 : t246 = t253
              · rw [if_pos c21] at H
                have c21b0 : (t246 == t253) = true := beq_iff_eq.mpr c21
                have c21b1 : (t246 != t253) = false := bne_eq_false_iff_eq.mpr c21
                clear c21
                by_cases c22 : t248.toList = t255.toList
                · rw [if_pos c22] at H
                  have c22b0 : (t248.toList == t255.toList) = true := beq_iff_eq.mpr c22
                  have c22b1 : (t248.toList != t255.toList) = false := bne_eq_false_iff_eq.mpr c22
                  clear c22
                  by_cases c23 : t250.toList = t257.toList
                  · rw [if_pos c23] at H
                    have c23b0 : (t250.toList == t257.toList) = true := beq_iff_eq.mpr c23
                    have c23b1 : (t250.toList != t257.toList) = false := bne_eq_false_iff_eq.mpr c23
                    clear c23
                    by_cases c24 : t251 = t258
                    · rw [if_pos c24] at H
                      have c24b0 : (t251 == t258) = true := beq_iff_eq.mpr c24
                      have c24b1 : (t251 != t258) = false := bne_eq_false_iff_eq.mpr c24
                      clear c24
                      by_cases c25 : t247 = t254
                      · rw [if_pos c25] at H
                        have c25b0 : (t247 == t254) = true := beq_iff_eq.mpr c25
                        have c25b1 : (t247 != t254) = false := bne_eq_false_iff_eq.mpr c25
                        clear c25
                        by_cases c26 : t249 = t256
                        · rw [if_pos c26] at H
                          have c26b0 : (t249 == t256) = true := beq_iff_eq.mpr c26
                          have c26b1 : (t249 != t256) = false := bne_eq_false_iff_eq.mpr c26
                          clear c26
                          obtain rfl := Option.some.inj H
                          go_wp2_with (first | ((with_reducible refine gate_callee (f := 12) rfl ?_); refine goesL_ (some 33) rfl rfl Tryd.func12 (by kernel_rfl) rfl #[.string a0] rfl (by (try simp only [List.map_toArray, List.map_cons, List.map_nil]); first | done | rfl | (simp only [List.length_drop, List.length_take]; rfl)) ?_; (with_reducible refine (name_Bucket.calls kj4 a0 t246 t247 _ A9.out).mono ?_); rintro e w27 ⟨rfl, hb⟩; refine ⟨_, rfl, ?_⟩; have n0_ := Aside0.mk (below_step (by repeat (first | (with_reducible first | exact HB.out | apply below_alloc | apply pw_below_drewN | apply below_drew1) | exact HB.out)) hb); clear HB; have HB := n0_; clear n0_; (try clear hb); (try clear hb2); (try clear hk); (try clear hi)) | ((with_reducible refine gate_callee (f := 10) rfl ?_); refine goesL_ (some 38) rfl rfl Tryd.func10 (by kernel_rfl) rfl #[.string a0] rfl (by (try simp only [List.map_toArray, List.map_cons, List.map_nil]); first | done | rfl | (simp only [List.length_drop, List.length_take]; rfl)) ?_; (with_reducible refine (name_Quote.calls a0 t248 t249 _ A10.out).mono ?_); rintro e w28 ⟨rfl, hb⟩; refine ⟨_, rfl, ?_⟩; have n0_ := Aside0.mk (below_step (by repeat (first | (with_reducible first | exact HB.out | apply below_alloc | apply pw_below_drewN | apply below_drew1) | exact HB.out)) hb); clear HB; have HB := n0_; clear n0_; (try clear hb); (try clear hb2); (try clear hk); (try clear hi)) | ((with_reducible refine gate_callee (f := 11) rfl ?_); refine goesL_ (some 43) rfl rfl Tryd.func11 (by kernel_rfl) rfl #[.string a1] rfl (by (try simp only [List.map_toArray, List.map_cons, List.map_nil]); first | done | rfl | (simp only [List.length_drop, List.length_take]; rfl)) ?_; (with_reducible refine (name_Plain.calls a1 t250 t251 t252 _ (HV.out.below (by repeat (first | (with_reducible first | exact HB.out | apply below_alloc | apply pw_below_drewN | apply below_drew1) | exact HB.out | exact Below.refl _ _))) A11.out).mono ?_); rintro e w29 ⟨rfl, hb⟩; refine ⟨_, rfl, ?_⟩; have n0_ := Aside0.mk (below_step (by repeat (first | (with_reducible first | exact HB.out | apply below_alloc | apply pw_below_drewN | apply below_drew1) | exact HB.out)) hb); clear HB; have HB := n0_; clear n0_; (try clear hb); (try clear hb2); (try clear hk); (try clear hi)) | ((with_reducible refine gate_callee (f := 16) rfl ?_); refine goesL_ (some 49) rfl rfl Tryd.func16 (by kernel_rfl) rfl #[.string a0] rfl (by (try simp only [List.map_toArray, List.map_cons, List.map_nil]); first | done | rfl | (simp only [List.length_drop, List.length_take]; rfl)) ?_; (with_reducible refine (twoslotref21_Bucket.calls kj4 a0 t253 t254 _ A12.out).mono ?_); rintro e w' ⟨rfl, ⟨nd, rfl⟩⟩; refine ⟨_, rfl, ?_⟩) | ((with_reducible refine gate_callee (f := 13) rfl ?_); refine goesL_ (some 54) rfl rfl Tryd.func13 (by kernel_rfl) rfl #[.string a0] rfl (by (try simp only [List.map_toArray, List.map_cons, List.map_nil]); first | done | rfl | (simp only [List.length_drop, List.length_take]; rfl)) ?_; (with_reducible refine (twoslotref21_Quote.calls kj4 a0 t255 t256 _ A13.out).mono ?_); rintro e w30 ⟨rfl, hb⟩; refine ⟨_, rfl, ?_⟩; have n0_ := Aside0.mk (below_step (by repeat (first | (with_reducible first | exact HB.out | apply below_alloc | apply pw_below_drewN | apply below_drew1) | exact HB.out)) hb); clear HB; have HB := n0_; clear n0_; (try clear hb); (try clear hb2); (try clear hk); (try clear hi)) | ((with_reducible refine gate_callee (f := 17) rfl ?_); refine goesL_ (some 59) rfl rfl Tryd.func17 (by kernel_rfl) rfl #[.string a1] rfl (by (try simp only [List.map_toArray, List.map_cons, List.map_nil]); first | done | rfl | (simp only [List.length_drop, List.length_take]; rfl)) ?_; (with_reducible refine (twoslotref21_Plain.calls kj4 a1 t257 t258 t259 _ A14.out).mono ?_); rintro e w31 ⟨rfl, hb⟩; refine ⟨_, rfl, ?_⟩; have n0_ := Aside0.mk (below_step (by repeat (first | (with_reducible first | exact HB.out | apply below_alloc | apply pw_below_drewN | apply below_drew1) | exact HB.out)) hb); clear HB; have HB := n0_; clear n0_; (try clear hb); (try clear hb2); (try clear hk); (try clear hi)) | ((with_reducible refine gate_callee (f := 18) rfl ?_); refine goesL_ (some 64) rfl rfl Tryd.func18 (by kernel_rfl) rfl #[.string a0] rfl (by (try simp only [List.map_toArray, List.map_cons, List.map_nil]); first | done | rfl | (simp only [List.length_drop, List.length_take]; rfl)) ?_; (with_reducible refine (name_Check.calls a0 t260 _ A15.out).mono ?_); rintro e w' ⟨rfl, ⟨nd, rfl⟩⟩; refine ⟨_, rfl, ?_⟩) | ((with_reducible refine gate_callee (f := 19) rfl ?_); refine goesL_ (some 66) rfl rfl Tryd.func19 (by kernel_rfl) rfl #[.string a0] rfl (by (try simp only [List.map_toArray, List.map_cons, List.map_nil]); first | done | rfl | (simp only [List.length_drop, List.length_take]; rfl)) ?_; (with_reducible refine (twoslotref21_Check.calls a0 t261 _ A16.out).mono ?_); rintro e w' ⟨rfl, ⟨nd, rfl⟩⟩; refine ⟨_, rfl, ?_⟩) | (go_at_call 20; (with_reducible refine (name_Less.calls a0 a1 t262 _ A18.out).mono ?_); rintro e w' ⟨rfl, ⟨nd, rfl⟩⟩) | (go_at_call 21; (with_reducible refine (twoslotref21_Less.calls kj4 a0 a1 t263 _ A19.out).mono ?_); rintro e w' ⟨rfl, ⟨nd, rfl⟩⟩))
                          go_ret
                          exact ⟨by first | rfl | (simp [errW_none, errW_some] <;> rfl) | (simp [*, errW_none, errW_some] <;> rfl), by repeat (first | (with_reducible first | exact HB.out | apply below_alloc | apply pw_below_drewN | apply below_drew1) | exact HB.out)⟩
                        · rw [if_neg c26] at H
                          exact absurd H (by simp)
                      · rw [if_neg c25] at H
                        exact absurd H (by simp)
                    · rw [if_neg c24] at H
                      exact absurd H (by simp)
                  · rw [if_neg c23] at H
                    exact absurd H (by simp)
                · rw [if_neg c22] at H
                  exact absurd H (by simp)
              · rw [if_neg c21] at H
                exact absurd H (by simp)
            · rw [if_neg c20] at H
              exact absurd H (by simp)
          · rw [if_neg c17] at H
            exact absurd H (by simp)
  · replace c4 := Bool.eq_false_iff.mpr c4
    subst c4
    have H1 : (none) = some r := by rw [if_neg (show ¬ (false = true) by decide)] at H; exact H
    clear H
    have H := H1
    clear H1
    exact absurd H (by simp)

/-- THE ONE PURE STATEMENT of twoslotlaw21_NameTexts: yours. -/
def twoslotlaw21_NameTexts.Pure : Prop := ∀ (a0 : ByteArray) (a1 : ByteArray), a0.size ≤ 140737488351232 → a1.size ≤ 140737488351232 → ∃ k, twoslotlaw21_NameTexts.f k a0 a1 = some true
theorem twoslotlaw21_NameTexts.walk (P : twoslotlaw21_NameTexts.Pure) (a0 : ByteArray) (a1 : ByteArray) (w : World) (hV : VarsOk w) (w0 : a0.size ≤ 140737488351232) (w1 : a1.size ≤ 140737488351232) :
    Calls Tryd.prog 4 #[.string a0, .string a1] w fun e w' => e = .returned (.bool true) ∧ Below w.heap.size w w' := by
  obtain ⟨k, h⟩ := P a0 a1 w0 w1
  refine (twoslotlaw21_NameTexts.calls k a0 a1 true w hV h).mono ?_
  rintro e w' ⟨rfl, hd⟩
  exact ⟨rfl, hd⟩

/-! ### twoslotref21_Sort: function 22 (by hand) -/

/-! ### twoslotlaw21_NameSorts: function 5 -/
mutual
def twoslotlaw21_NameSorts.j0 : Nat → List ByteArray → List ByteArray → List ByteArray → List ByteArray → Int → Bool → Option (Bool)
  | 0, _, _, _, _, _, _ => none
  | k + 1, x0, x4, x5, x7, x8, x9 => twoslotlaw21_NameSorts.l0 k x0 x4 x5 x7 x8 x9 0
def twoslotlaw21_NameSorts.l0 : Nat → List ByteArray → List ByteArray → List ByteArray → List ByteArray → Int → Bool → Int → Option (Bool)
  | 0, _, _, _, _, _, _, _ => none
  | k + 1, x0, x4, x5, x7, x8, x9, x10 => if x10 < (x5.length : Int) then (if 0 ≤ x10 then (twoslotlaw21_NameSorts.l0 k x0 x4 (x5.set (x10 : Int).toNat (⟨#[122, 122]⟩ : ByteArray)) x7 x8 x9 (wrap64 (x10 + 1))) else (none)) else ((name_Sort.f x4).bind fun bt278 => (if x9 = true then ((twoslotref21_Same.f k bt278.1 x7).bind fun t282 => (if t282 = true then (if bt278.2 = x8 then ((twoslotref21_Same.f k x4 x0).bind fun t283 => (some t283)) else (none)) else (none))) else (none)))
end
def twoslotlaw21_NameSorts.f (k : Nat) (l0 : List ByteArray) : Option (Bool) := (twoslotlaw21_alive.f k).bind fun t264 => (if t264 = true then (if (l0.length : Int) > 500 then (some true) else (if ([] : List ByteArray).length + l0.length < 8796093022208 then ((some (([] : List ByteArray) ++ l0 : List ByteArray)).bind fun y265 => ((name_Sort.f y265).bind fun bt268 => ((twoslotref21_Sort.f l0).bind fun bt272 => ((twoslotref21_Same.f k bt268.1 bt272.1).bind fun t276 => (if t276 = true then (twoslotlaw21_NameSorts.j0 k l0 y265 bt268.1 bt272.1 bt272.2 (bt268.2 == bt272.2)) else (twoslotlaw21_NameSorts.j0 k l0 y265 bt268.1 bt272.1 bt272.2 false)))))) else (none))) else (none))
theorem twoslotlaw21_NameSorts.mono_l : ∀ k, (∀ y0 y1 y2 y3 y4 y5, LeO (twoslotlaw21_NameSorts.j0 k y0 y1 y2 y3 y4 y5) (twoslotlaw21_NameSorts.j0 (k + 1) y0 y1 y2 y3 y4 y5)) ∧ (∀ y0 y1 y2 y3 y4 y5 y6, LeO (twoslotlaw21_NameSorts.l0 k y0 y1 y2 y3 y4 y5 y6) (twoslotlaw21_NameSorts.l0 (k + 1) y0 y1 y2 y3 y4 y5 y6))
  | 0 => ⟨fun _ _ _ _ _ _ r h => by simp [twoslotlaw21_NameSorts.j0] at h, fun _ _ _ _ _ _ _ r h => by simp [twoslotlaw21_NameSorts.l0] at h⟩
  | k + 1 => by
    obtain ⟨ih0, ih1⟩ := twoslotlaw21_NameSorts.mono_l k
    refine ⟨?_, ?_⟩
    · intro y0 y1 y2 y3 y4 y5
      unfold twoslotlaw21_NameSorts.j0
      repeat' first
      | (with_reducible exact ih0 _ _ _ _ _ _)
      | (with_reducible exact ih1 _ _ _ _ _ _ _)
      | (with_reducible exact twoslotlaw21_alive.mono _)
      | (with_reducible exact twoslotref21_Same.mono _ _ _)
      | (with_reducible exact LeO.refl _)
      | (with_reducible exact LeO.none _)
      | (with_reducible refine LeO.ite ?_ ?_)
      | (with_reducible refine LeO.bind ?_ (fun _ => ?_))
      | exact ih0 _ _ _ _ _ _
      | exact ih1 _ _ _ _ _ _ _
      | exact twoslotlaw21_alive.mono _
      | exact twoslotref21_Same.mono _ _ _
      | exact LeO.none _
      | refine LeO.ite ?_ ?_
      | refine LeO.bind ?_ (fun _ => ?_)
    · intro y0 y1 y2 y3 y4 y5 y6
      unfold twoslotlaw21_NameSorts.l0
      repeat' first
      | (with_reducible exact ih0 _ _ _ _ _ _)
      | (with_reducible exact ih1 _ _ _ _ _ _ _)
      | (with_reducible exact twoslotlaw21_alive.mono _)
      | (with_reducible exact twoslotref21_Same.mono _ _ _)
      | (with_reducible exact LeO.refl _)
      | (with_reducible exact LeO.none _)
      | (with_reducible refine LeO.ite ?_ ?_)
      | (with_reducible refine LeO.bind ?_ (fun _ => ?_))
      | exact ih0 _ _ _ _ _ _
      | exact ih1 _ _ _ _ _ _ _
      | exact twoslotlaw21_alive.mono _
      | exact twoslotref21_Same.mono _ _ _
      | exact LeO.none _
      | refine LeO.ite ?_ ?_
      | refine LeO.bind ?_ (fun _ => ?_)
theorem twoslotlaw21_NameSorts.mono : ∀ a0 k, LeO (twoslotlaw21_NameSorts.f k a0) (twoslotlaw21_NameSorts.f (k + 1) a0) := by
  intro a0 k
  obtain ⟨ih0, ih1⟩ := twoslotlaw21_NameSorts.mono_l k
  unfold twoslotlaw21_NameSorts.f
  repeat' first
      | (with_reducible exact ih0 _ _ _ _ _ _)
      | (with_reducible exact ih1 _ _ _ _ _ _ _)
      | (with_reducible exact twoslotlaw21_alive.mono _)
      | (with_reducible exact twoslotref21_Same.mono _ _ _)
      | (with_reducible exact LeO.refl _)
      | (with_reducible exact LeO.none _)
      | (with_reducible refine LeO.ite ?_ ?_)
      | (with_reducible refine LeO.bind ?_ (fun _ => ?_))
      | exact ih0 _ _ _ _ _ _
      | exact ih1 _ _ _ _ _ _ _
      | exact twoslotlaw21_alive.mono _
      | exact twoslotref21_Same.mono _ _ _
      | exact LeO.none _
      | refine LeO.ite ?_ ?_
      | refine LeO.bind ?_ (fun _ => ?_)
set_option maxHeartbeats 8000000 in
set_option maxRecDepth 100000 in
theorem twoslotlaw21_NameSorts.calls (k : Nat) (A0 : Option Addr) (c0 : Nat) (l0 : List ByteArray) (r : Bool) (w : World) (hr0 : Kd.C Kd.string w A0 l0.length l0) (hc0 : l0.length ≤ c0) (hV : VarsOk w) (h : twoslotlaw21_NameSorts.f k l0 = some r) :
    Calls Tryd.prog 5 #[.slice A0 l0.length c0] w fun e w' => e = .returned (.bool r) ∧ Below w.heap.size w w' := by
  have HV := Aside0.mk hV
  clear hV
  have HR0 := Aside0.mk hr0
  have HC0 := Aside0.mk hc0
  clear hr0 hc0
  have HB := Aside0.mk (Below.refl w.heap.size w)
  have H : ((twoslotlaw21_alive.f k).bind fun t264 => (if t264 = true then (if (l0.length : Int) > 500 then (some true) else (if ([] : List ByteArray).length + l0.length < 8796093022208 then ((some (([] : List ByteArray) ++ l0 : List ByteArray)).bind fun y265 => ((name_Sort.f y265).bind fun bt268 => ((twoslotref21_Sort.f l0).bind fun bt272 => ((twoslotref21_Same.f k bt268.1 bt272.1).bind fun t276 => (if t276 = true then (twoslotlaw21_NameSorts.j0 k l0 y265 bt268.1 bt272.1 bt272.2 (bt268.2 == bt272.2)) else (twoslotlaw21_NameSorts.j0 k l0 y265 bt268.1 bt272.1 bt272.2 false)))))) else (none))) else (none))) = some r := h
  clear h
  replace H := Option.bind_eq_some_iff.mp H
  obtain ⟨t264, A20, H⟩ := H
  replace H : (if t264 = true then (if (l0.length : Int) > 500 then (some true) else (if ([] : List ByteArray).length + l0.length < 8796093022208 then ((some (([] : List ByteArray) ++ l0 : List ByteArray)).bind fun y265 => ((name_Sort.f y265).bind fun bt268 => ((twoslotref21_Sort.f l0).bind fun bt272 => ((twoslotref21_Same.f k bt268.1 bt272.1).bind fun t276 => (if t276 = true then (twoslotlaw21_NameSorts.j0 k l0 y265 bt268.1 bt272.1 bt272.2 (bt268.2 == bt272.2)) else (twoslotlaw21_NameSorts.j0 k l0 y265 bt268.1 bt272.1 bt272.2 false)))))) else (none))) else (none)) = some r := H
  have A2 := Aside0.mk A20
  clear A20
  by_cases c3 : t264 = true
  · subst c3
    have H1 : (if (l0.length : Int) > 500 then (some true) else (if ([] : List ByteArray).length + l0.length < 8796093022208 then ((some (([] : List ByteArray) ++ l0 : List ByteArray)).bind fun y265 => ((name_Sort.f y265).bind fun bt268 => ((twoslotref21_Sort.f l0).bind fun bt272 => ((twoslotref21_Same.f k bt268.1 bt272.1).bind fun t276 => (if t276 = true then (twoslotlaw21_NameSorts.j0 k l0 y265 bt268.1 bt272.1 bt272.2 (bt268.2 == bt272.2)) else (twoslotlaw21_NameSorts.j0 k l0 y265 bt268.1 bt272.1 bt272.2 false)))))) else (none))) = some r := by rw [if_pos rfl] at H; exact H
    clear H
    have H := H1
    clear H1
    by_cases c4 : (l0.length : Int) > 500
    · rw [if_pos c4] at H
      have c4b0 : decide (500 < (l0.length : Int)) = true := decide_eq_true c4
      have c4b1 : decide (500 < l0.length) = true := decide_eq_true (by omega)
      clear c4
      obtain rfl := Option.some.inj H
      go_enter Tryd.func5, Tryd.ntmps5
      go_wp2_with (first | ((with_reducible refine gate_callee (f := 9) rfl ?_); refine goesL_ (some 13) rfl rfl Tryd.func9 (by kernel_rfl) rfl #[] rfl (by (try simp only [List.map_toArray, List.map_cons, List.map_nil]); first | done | rfl | (simp only [List.length_drop, List.length_take]; rfl)) ?_; (with_reducible refine (twoslotlaw21_alive.calls k  true _ (HV.out.below (by repeat (first | (with_reducible first | exact HB.out | apply below_alloc | apply pw_below_drewN | apply below_drew1) | exact HB.out | exact Below.refl _ _))) A2.out).mono ?_); rintro e w5 ⟨rfl, hb⟩; refine ⟨_, rfl, ?_⟩; have n0_ := Aside0.mk (below_step (by repeat (first | (with_reducible first | exact HB.out | apply below_alloc | apply pw_below_drewN | apply below_drew1) | exact HB.out)) hb); clear HB; have HB := n0_; clear n0_; (try clear hb); (try clear hb2); (try clear hk); (try clear hi)))
      go_ret
      exact ⟨by first | rfl | (simp [errW_none, errW_some] <;> rfl) | (simp [*, errW_none, errW_some] <;> rfl), by repeat (first | (with_reducible first | exact HB.out | apply below_alloc | apply pw_below_drewN | apply below_drew1) | exact HB.out)⟩
    · rw [if_neg c4] at H
      have c4b0 : decide (500 < (l0.length : Int)) = false := decide_eq_false c4
      have c4b1 : decide (500 < l0.length) = false := decide_eq_false (by omega)
      clear c4
      by_cases c6 : ([] : List ByteArray).length + l0.length < 8796093022208
      · rw [if_pos c6] at H
        have LMc6 := Aside0.mk c6
        clear c6
        obtain ⟨y265, hy265⟩ : ∃ y_ : List ByteArray, y_ = (([] : List ByteArray) ++ l0) := ⟨_, rfl⟩
        replace H : ((name_Sort.f y265).bind fun bt268 => ((twoslotref21_Sort.f l0).bind fun bt272 => ((twoslotref21_Same.f k bt268.1 bt272.1).bind fun t276 => (if t276 = true then (twoslotlaw21_NameSorts.j0 k l0 y265 bt268.1 bt272.1 bt272.2 (bt268.2 == bt272.2)) else (twoslotlaw21_NameSorts.j0 k l0 y265 bt268.1 bt272.1 bt272.2 false))))) = some r := by first | (rw [hy265]; with_reducible exact H) | (have H2_ := (Option.bind_some _ _).symm.trans H; rw [hy265]; with_reducible exact H2_) | (have H2_ := (Option.bind_some _ _).symm.trans H; with_reducible exact H2_) | with_reducible exact H | (rw [hy265]; exact H) | exact H
        have Ny265 := Aside0.mk hy265
        clear hy265
        replace H := Option.bind_eq_some_iff.mp H
        obtain ⟨⟨t268, t269⟩, A70, H⟩ := H
        replace H : ((twoslotref21_Sort.f l0).bind fun bt272 => ((twoslotref21_Same.f k t268 bt272.1).bind fun t276 => (if t276 = true then (twoslotlaw21_NameSorts.j0 k l0 y265 t268 bt272.1 bt272.2 (t269 == bt272.2)) else (twoslotlaw21_NameSorts.j0 k l0 y265 t268 bt272.1 bt272.2 false)))) = some r := H
        have A7 := Aside0.mk A70
        clear A70
        replace H := Option.bind_eq_some_iff.mp H
        obtain ⟨⟨t272, t273⟩, A80, H⟩ := H
        replace H : ((twoslotref21_Same.f k t268 t272).bind fun t276 => (if t276 = true then (twoslotlaw21_NameSorts.j0 k l0 y265 t268 t272 t273 (t269 == t273)) else (twoslotlaw21_NameSorts.j0 k l0 y265 t268 t272 t273 false))) = some r := H
        have A8 := Aside0.mk A80
        clear A80
        have HC9 := Aside0.mk H
        clear H
        go_enter Tryd.func5, Tryd.ntmps5
        go_upto_region 10 with (first | ((with_reducible refine gate_callee (f := 9) rfl ?_); refine goesL_ (some 13) rfl rfl Tryd.func9 (by kernel_rfl) rfl #[] rfl (by (try simp only [List.map_toArray, List.map_cons, List.map_nil]); first | done | rfl | (simp only [List.length_drop, List.length_take]; rfl)) ?_; (with_reducible refine (twoslotlaw21_alive.calls k  true _ (HV.out.below (by repeat (first | (with_reducible first | exact HB.out | apply below_alloc | apply pw_below_drewN | apply below_drew1) | exact HB.out | exact Below.refl _ _))) A2.out).mono ?_); rintro e w10 ⟨rfl, hb⟩; refine ⟨_, rfl, ?_⟩; have n0_ := Aside0.mk (below_step (by repeat (first | (with_reducible first | exact HB.out | apply below_alloc | apply pw_below_drewN | apply below_drew1) | exact HB.out)) hb); clear HB; have HB := n0_; clear n0_; (try clear hb); (try clear hb2); (try clear hk); (try clear hi)) | ((with_reducible refine gate_builtin (b := .append) (xs := #[.tmp 19, .tmp 20]) rfl ?_); at_builtin; refine Kd.R_append_rows Kd.string (w0 := w) w.heap.size rfl (.tmp 19) (.tmp 20) 32 9 (.string ⟨#[]⟩) 16 rfl Tryd.underlying32 info9 rfl (by decide) (by omega) (.slice none 0 0) ([] : List ByteArray) l0 _ _ _ (fun _ => True) (fun _ => False) rfl rfl ?aO ?aR (fun _ _ h => h) (fun _ h => h.elim) ?aF ?aB ?aS ?aL ?_; (case aR => repeat (first | exact (Kd.C_below HR0.out HB.out) | (with_reducible refine Kd.C_alloc ?_ _) | (with_reducible refine Kd.C_drewN ?_ _) | (with_reducible refine Kd.C_drew ?_))); (case aB => exact (by repeat (first | (with_reducible first | exact HB.out | apply below_alloc | apply pw_below_drewN | apply below_drew1) | exact HB.out))); (case aF => exact (fun _ _ => trivial)); (case aO => exact ((Kd.R_nil _ _ _ _ (fun _ => True)))); (case aS => exact (below_size (by repeat (first | (with_reducible first | exact HB.out | apply below_alloc | apply pw_below_drewN | apply below_drew1) | exact HB.out)))); (case aL => have := LMc6.out; omega); intro v266 w11 ho hb hg hat; rw [← Ny265.out] at ho; have n0_ := Aside0.mk (hb); have n1_ := Aside0.mk (ho); clear HB; have HB := n0_; have HO267 := n1_; clear n0_ n1_; clear ho hb hg hat; obtain ⟨Ao12, co12, eo12⟩ := Kd.R_slice HO267.out; subst eo12) | ((with_reducible refine gate_callee (f := 15) rfl ?_); refine goesL_ (some 24) rfl rfl Tryd.func15 (by kernel_rfl) rfl #[.slice Ao12 y265.length co12] rfl (by (try simp only [List.map_toArray, List.map_cons, List.map_nil]); first | done | rfl | (simp only [List.length_drop, List.length_take]; rfl)) ?_; (with_reducible refine (name_Sort.calls _ _ y265 t268 t269 _ ?side1 ?side2 A7.out).mono ?_); (case side1 => repeat (first | exact (Kd.R_reads' HO267.out).2.2 | (with_reducible refine Kd.C_alloc ?_ _) | (with_reducible refine Kd.C_drewN ?_ _) | (with_reducible refine Kd.C_drew ?_))); (case side2 => exact (Kd.R_reads' HO267.out).2.1); rintro e w13 ⟨v270, rfl, ho0, hb⟩; refine ⟨_, rfl, ?_⟩; have n0_ := Aside0.mk (Kd.R_elder' (by (with_reducible repeat (first | apply Kd.R_alloc | apply Kd.R_drewN | apply Kd.R_drew)); exact HO267.out) (Kd.R_base ho0) hb); have n1_ := Aside0.mk (Kd.R_lower (Kd.R_new' ho0 (Kd.R_lt (by (with_reducible repeat (first | apply Kd.R_alloc | apply Kd.R_drewN | apply Kd.R_drew)); exact HO267.out))) (below_size (by repeat (first | (with_reducible first | exact HB.out | apply below_alloc | apply pw_below_drewN | apply below_drew1) | exact HB.out)))); have n2_ := Aside0.mk (below_step (by repeat (first | (with_reducible first | exact HB.out | apply below_alloc | apply pw_below_drewN | apply below_drew1) | exact HB.out)) hb); clear HO267; clear HB; have HO267 := n0_; have HO271 := n1_; have HB := n2_; clear n0_ n1_ n2_; (try clear hb); (try clear hb2); (try clear hk); (try clear hi); (try clear ho0)) | ((with_reducible refine gate_callee (f := 22) rfl ?_); refine goesL_ (some 29) rfl rfl Tryd.func22 (by kernel_rfl) rfl #[.slice A0 l0.length c0] rfl (by (try simp only [List.map_toArray, List.map_cons, List.map_nil]); first | done | rfl | (simp only [List.length_drop, List.length_take]; rfl)) ?_; (with_reducible refine (twoslotref21_Sort.calls _ _ l0 t272 t273 _ ?side1 ?side2 A8.out).mono ?_); (case side1 => repeat (first | exact (Kd.C_below HR0.out HB.out) | (with_reducible refine Kd.C_alloc ?_ _) | (with_reducible refine Kd.C_drewN ?_ _) | (with_reducible refine Kd.C_drew ?_))); (case side2 => exact HC0.out); rintro e w14 ⟨v274, rfl, ho0, hb⟩; refine ⟨_, rfl, ?_⟩; have n0_ := Aside0.mk (Kd.R_elder' (by (with_reducible repeat (first | apply Kd.R_alloc | apply Kd.R_drewN | apply Kd.R_drew)); exact HO267.out) (Kd.R_base ho0) hb); have n1_ := Aside0.mk (Kd.R_elder' (by (with_reducible repeat (first | apply Kd.R_alloc | apply Kd.R_drewN | apply Kd.R_drew)); exact HO271.out) (Kd.R_base ho0) hb); have n2_ := Aside0.mk (Kd.R_lower (Kd.R_new' (Kd.R_new' ho0 (Kd.R_lt (by (with_reducible repeat (first | apply Kd.R_alloc | apply Kd.R_drewN | apply Kd.R_drew)); exact HO267.out))) (Kd.R_lt (by (with_reducible repeat (first | apply Kd.R_alloc | apply Kd.R_drewN | apply Kd.R_drew)); exact HO271.out))) (below_size (by repeat (first | (with_reducible first | exact HB.out | apply below_alloc | apply pw_below_drewN | apply below_drew1) | exact HB.out)))); have n3_ := Aside0.mk (below_step (by repeat (first | (with_reducible first | exact HB.out | apply below_alloc | apply pw_below_drewN | apply below_drew1) | exact HB.out)) hb); clear HO267; clear HO271; clear HB; have HO267 := n0_; have HO271 := n1_; have HO275 := n2_; have HB := n3_; clear n0_ n1_ n2_ n3_; (try clear hb); (try clear hb2); (try clear hk); (try clear hi); (try clear ho0)))
        (try simp only [Act.put, List.setIfInBounds_toArray, List.set_cons_zero, List.set_cons_succ])
        go_cut [9] (fun v9 wc => ∃ (kq : Nat) (x9_8 : Bool), v9 = .bool x9_8 ∧ Aside0 (twoslotlaw21_NameSorts.j0 kq l0 y265 t268 t272 t273 x9_8 = some r) ∧ Aside0 (kq ≤ k) ∧ Aside0 (Kd.R Kd.string 9 wc w.heap.size (fun k_ => some k_ ≠ (v270 : Value).ownBlock ∧ some k_ ≠ (v274 : Value).ownBlock) (.slice Ao12 y265.length co12) y265) ∧ Aside0 (Kd.R Kd.string 9 wc w.heap.size (fun k_ => some k_ ≠ ((.slice Ao12 y265.length co12) : Value).ownBlock ∧ some k_ ≠ (v274 : Value).ownBlock) v270 t268) ∧ Aside0 (Kd.R Kd.string 9 wc w.heap.size (fun k_ => some k_ ≠ ((.slice Ao12 y265.length co12) : Value).ownBlock ∧ some k_ ≠ (v270 : Value).ownBlock) v274 t272) ∧ Aside0 (Below w.heap.size w wc))
        case first =>
          have H := HC9.out
          clear HC9
          replace H := Option.bind_eq_some_iff.mp H
          obtain ⟨t276, A150, H⟩ := H
          replace H : (if t276 = true then (twoslotlaw21_NameSorts.j0 k l0 y265 t268 t272 t273 (t269 == t273)) else (twoslotlaw21_NameSorts.j0 k l0 y265 t268 t272 t273 false)) = some r := H
          have A15 := Aside0.mk A150
          clear A150
          by_cases c16 : t276 = true
          · subst c16
            have H1 : (twoslotlaw21_NameSorts.j0 k l0 y265 t268 t272 t273 (t269 == t273)) = some r := by rw [if_pos rfl] at H; exact H
            clear H
            have H := H1
            clear H1
            have H' := Aside0.mk H
            clear H
            obtain ⟨Ao17, co17, eo17⟩ := Kd.R_slice HO271.out
            subst eo17
            obtain ⟨Ao18, co18, eo18⟩ := Kd.R_slice HO275.out
            subst eo18
            go_wp2_with (first | ((with_reducible refine gate_callee (f := 23) rfl ?_); refine goesL_ (some 34) rfl rfl Tryd.func23 (by kernel_rfl) rfl #[.slice Ao17 t268.length co17, .slice Ao18 t272.length co18] rfl (by (try simp only [List.map_toArray, List.map_cons, List.map_nil]); first | done | rfl | (simp only [List.length_drop, List.length_take]; rfl)) ?_; (with_reducible refine (twoslotref21_Same.calls k _ _ t268 _ _ t272 true _ ?side1 ?side2 ?side3 ?side4 A15.out).mono ?_); (case side1 => repeat (first | exact (Kd.R_reads' HO271.out).2.2 | (with_reducible refine Kd.C_alloc ?_ _) | (with_reducible refine Kd.C_drewN ?_ _) | (with_reducible refine Kd.C_drew ?_))); (case side2 => exact (Kd.R_reads' HO271.out).2.1); (case side3 => repeat (first | exact (Kd.R_reads' HO275.out).2.2 | (with_reducible refine Kd.C_alloc ?_ _) | (with_reducible refine Kd.C_drewN ?_ _) | (with_reducible refine Kd.C_drew ?_))); (case side4 => exact (Kd.R_reads' HO275.out).2.1); rintro e w' ⟨rfl, ⟨nd, rfl⟩⟩; refine ⟨_, rfl, ?_⟩))
            go_meet
            case rel => exact ⟨_, ((t269 == t273)), (by first | rfl | (simp; done) | (simp [*]; done)), H', ⟨by first | omega | exact Nat.le_refl _⟩, ⟨by (with_reducible repeat (first | apply Kd.R_alloc | apply Kd.R_drewN | apply Kd.R_drew)); exact Kd.R_mono HO267.out (fun _ hk => ⟨hk.1.2, hk.2⟩)⟩, ⟨by (with_reducible repeat (first | apply Kd.R_alloc | apply Kd.R_drewN | apply Kd.R_drew)); exact Kd.R_mono HO271.out (fun _ hk => ⟨hk.1.2, hk.2⟩)⟩, ⟨by (with_reducible repeat (first | apply Kd.R_alloc | apply Kd.R_drewN | apply Kd.R_drew)); exact Kd.R_mono HO275.out (fun _ hk => ⟨hk.1.2, hk.2⟩)⟩, ⟨by repeat (first | (with_reducible first | exact HB.out | apply below_alloc | apply pw_below_drewN | apply below_drew1) | exact HB.out)⟩⟩
          · replace c16 := Bool.eq_false_iff.mpr c16
            subst c16
            have H1 : (twoslotlaw21_NameSorts.j0 k l0 y265 t268 t272 t273 false) = some r := by rw [if_neg (show ¬ (false = true) by decide)] at H; exact H
            clear H
            have H := H1
            clear H1
            have H' := Aside0.mk H
            clear H
            obtain ⟨Ao19, co19, eo19⟩ := Kd.R_slice HO271.out
            subst eo19
            obtain ⟨Ao20, co20, eo20⟩ := Kd.R_slice HO275.out
            subst eo20
            go_wp2_with (first | ((with_reducible refine gate_callee (f := 23) rfl ?_); refine goesL_ (some 34) rfl rfl Tryd.func23 (by kernel_rfl) rfl #[.slice Ao19 t268.length co19, .slice Ao20 t272.length co20] rfl (by (try simp only [List.map_toArray, List.map_cons, List.map_nil]); first | done | rfl | (simp only [List.length_drop, List.length_take]; rfl)) ?_; (with_reducible refine (twoslotref21_Same.calls k _ _ t268 _ _ t272 false _ ?side1 ?side2 ?side3 ?side4 A15.out).mono ?_); (case side1 => repeat (first | exact (Kd.R_reads' HO271.out).2.2 | (with_reducible refine Kd.C_alloc ?_ _) | (with_reducible refine Kd.C_drewN ?_ _) | (with_reducible refine Kd.C_drew ?_))); (case side2 => exact (Kd.R_reads' HO271.out).2.1); (case side3 => repeat (first | exact (Kd.R_reads' HO275.out).2.2 | (with_reducible refine Kd.C_alloc ?_ _) | (with_reducible refine Kd.C_drewN ?_ _) | (with_reducible refine Kd.C_drew ?_))); (case side4 => exact (Kd.R_reads' HO275.out).2.1); rintro e w' ⟨rfl, ⟨nd, rfl⟩⟩; refine ⟨_, rfl, ?_⟩))
            go_meet
            case rel => exact ⟨_, (false), (by first | rfl | (simp; done) | (simp [*]; done)), H', ⟨by first | omega | exact Nat.le_refl _⟩, ⟨by (with_reducible repeat (first | apply Kd.R_alloc | apply Kd.R_drewN | apply Kd.R_drew)); exact Kd.R_mono HO267.out (fun _ hk => ⟨hk.1.2, hk.2⟩)⟩, ⟨by (with_reducible repeat (first | apply Kd.R_alloc | apply Kd.R_drewN | apply Kd.R_drew)); exact Kd.R_mono HO271.out (fun _ hk => ⟨hk.1.2, hk.2⟩)⟩, ⟨by (with_reducible repeat (first | apply Kd.R_alloc | apply Kd.R_drewN | apply Kd.R_drew)); exact Kd.R_mono HO275.out (fun _ hk => ⟨hk.1.2, hk.2⟩)⟩, ⟨by repeat (first | (with_reducible first | exact HB.out | apply below_alloc | apply pw_below_drewN | apply below_drew1) | exact HB.out)⟩⟩
        case rest =>
          clear HC9
          try clear c1
          try clear c2
          try clear p2
          try clear c3
          try clear c4
          try clear c4b0
          try clear c4b1
          try clear c5
          try clear c6
          try clear c9
          try clear c15
          try clear c16
          obtain ⟨kq, x9_8, rfl, HA, HJ8, HO_4, HO_5, HO_7, HB⟩ := hcut
          cases kq with
          | zero => exact absurd HA.out (by simp [twoslotlaw21_NameSorts.j0])
          | succ kj8 =>
            have H := HA.out
            clear HA
            simp only [twoslotlaw21_NameSorts.j0] at H
            have H' := Aside0.mk H
            clear H
            go_wp2
            go_loopg [10] kj8 (fun kq v10 w' => ∃ (x5_2 : List ByteArray) (x10_2 : Int), v10 = .int .i64 x10_2 ∧ Aside0 (twoslotlaw21_NameSorts.l0 kq l0 y265 x5_2 t272 t273 x9_8 x10_2 = some r) ∧ Aside0 (kq ≤ kj8) ∧ Aside0 (Kd.R Kd.string 9 w' w.heap.size (fun k_ => some k_ ≠ (v270 : Value).ownBlock ∧ some k_ ≠ (v274 : Value).ownBlock) (.slice Ao12 y265.length co12) y265) ∧ Aside0 (Kd.R Kd.string 9 w' w.heap.size (fun k_ => some k_ ≠ ((.slice Ao12 y265.length co12) : Value).ownBlock ∧ some k_ ≠ (v274 : Value).ownBlock) v270 x5_2) ∧ Aside0 (Kd.R Kd.string 9 w' w.heap.size (fun k_ => some k_ ≠ ((.slice Ao12 y265.length co12) : Value).ownBlock ∧ some k_ ≠ (v270 : Value).ownBlock) v274 t272) ∧ Aside0 (Below w.heap.size w w'))
            case atStart => exact ⟨(t268), (0), (by first | rfl | (simp; done) | (simp [*]; done)), H', ⟨Nat.le_refl _⟩, ⟨by (with_reducible repeat (first | apply Kd.R_alloc | apply Kd.R_drewN | apply Kd.R_drew)); exact HO_4.out⟩, ⟨by (with_reducible repeat (first | apply Kd.R_alloc | apply Kd.R_drewN | apply Kd.R_drew)); exact HO_5.out⟩, ⟨by (with_reducible repeat (first | apply Kd.R_alloc | apply Kd.R_drewN | apply Kd.R_drew)); exact HO_7.out⟩, ⟨by repeat (first | (with_reducible first | exact HB.out | apply below_alloc | apply pw_below_drewN | apply below_drew1) | exact HB.out)⟩⟩
            case round =>
              clear H'
              try clear c1
              try clear c2
              try clear p2
              try clear c3
              try clear c4
              try clear c4b0
              try clear c4b1
              try clear c5
              try clear c6
              try clear c9
              try clear c15
              try clear c16
              try clear p2
              obtain ⟨x5_2, x10_2, rfl, HA, HK2, HO_4, HO_5, HO_7, HB⟩ := hrel
              cases gk with
              | zero => exact absurd HA.out (by simp [twoslotlaw21_NameSorts.l0])
              | succ k2 =>
                have H := HA.out
                clear HA
                simp only [twoslotlaw21_NameSorts.l0] at H
                by_cases c21 : x10_2 < (x5_2.length : Int)
                · rw [if_pos c21] at H
                  have c21b0 : decide (x10_2 < (x5_2.length : Int)) = true := decide_eq_true c21
                  clear c21
                  by_cases c22 : 0 ≤ x10_2
                  · rw [if_pos c22] at H
                    have c22b0 : decide (0 ≤ x10_2) = true := decide_eq_true c22
                    clear c22
                    obtain ⟨y277, hy277⟩ : ∃ y_ : List ByteArray, y_ = (x5_2.set (x10_2 : Int).toNat (⟨#[122, 122]⟩ : ByteArray)) := ⟨_, rfl⟩
                    replace H : (twoslotlaw21_NameSorts.l0 k2 l0 y265 y277 t272 t273 x9_8 (wrap64 (x10_2 + 1))) = some r := by first | (rw [hy277]; with_reducible exact H) | (have H2_ := (Option.bind_some _ _).symm.trans H; rw [hy277]; with_reducible exact H2_) | (have H2_ := (Option.bind_some _ _).symm.trans H; with_reducible exact H2_) | with_reducible exact H | (rw [hy277]; exact H) | exact H
                    have Ny277 := Aside0.mk hy277
                    clear hy277
                    have H' := Aside0.mk H
                    clear H
                    obtain ⟨Ao24, co24, eo24⟩ := Kd.R_slice HO_5.out
                    subst eo24
                    have p23 : 0 ≤ (x10_2 : Int) := of_decide_eq_true (by first | (with_reducible assumption) | assumption)
                    have q23 : (x10_2 : Int) < ((x5_2.length : Int) : Int) := of_decide_eq_true (by first | (with_reducible assumption) | assumption)
                    obtain ⟨go23, co23, eo23, gb23, gl23, cl23, HG23⟩ := Kd.R_form HO_5.out (by omega)
                    (first | cases eo23 | (injection eo23 with ea_ en_ ec_; (first | subst ea_ | (injection ea_ with ea_; subst ea_)); subst ec_; clear en_))
                    have GB23 := Aside0.mk gb23
                    have GG23 := Aside0.mk HG23
                    clear gb23 gl23 HG23
                    obtain ⟨hx23_0, hf23_0⟩ := Kd.R_celln (⟨#[]⟩ : ByteArray) HO_5.out (x10_2 : Int) p23 q23
                    replace p23 := eq_true p23
                    replace q23 := eq_true q23
                    have HP25 := Kd.R_putg HO_5.out (x10_2 : Int) (⟨#[122, 122]⟩ : ByteArray)
                    go_wp2_with (first | ((with_reducible refine gate_store (t := 9) (p := 48) rfl ?_); refine store_event (t := 9) (p := 48) (v := ?vo_w26) (w1 := (wr.setCell ⟨go23, (x10_2 : Int).toNat, none⟩ (.string (⟨#[122, 122]⟩ : ByteArray)))) ?hg ?ho ?hn ?hr ?_; (case ho => rfl); (case hg => rfl); (case hn => rfl); (case hr => first | (go_simp; done) | (go_simp; rfl)); intro w26 hw; have hg : wr.grownBy w26 (some go23) := (by rw [hw]; exact HP25.2); have hp_ : Kd.R Kd.string 9 w26 w.heap.size (fun k_ => some k_ ≠ (.slice Ao12 y265.length co12 : Value).ownBlock ∧ some k_ ≠ (v274 : Value).ownBlock) (.slice (some ⟨go23, 0, none⟩) x5_2.length co24) y277 := (by rw [hw, Ny277.out]; exact HP25.1); clear HP25; have n0_ := Aside0.mk (Kd.R_after (v := (.slice (some ⟨go23, 0, none⟩) x5_2.length co24)) (v1 := (.slice (some ⟨go23, 0, none⟩) x5_2.length co24)) (ok := (fun k_ => some k_ ≠ (v274 : Value).ownBlock)) (by (with_reducible repeat (first | apply Kd.R_alloc | apply Kd.R_drewN | apply Kd.R_drew)); exact Kd.R_mono HO_4.out (fun _ hk => ⟨hk.2, hk.1⟩)) hg (.inl rfl)); have n1_ := Aside0.mk (hp_); have n2_ := Aside0.mk (Kd.R_after (v := (.slice (some ⟨go23, 0, none⟩) x5_2.length co24)) (v1 := (.slice (some ⟨go23, 0, none⟩) x5_2.length co24)) (ok := (fun k_ => some k_ ≠ (.slice Ao12 y265.length co12 : Value).ownBlock)) (by (with_reducible repeat (first | apply Kd.R_alloc | apply Kd.R_drewN | apply Kd.R_drew)); exact HO_7.out) hg (.inl rfl)); have n3_ := Aside0.mk ((by rw [hw]; exact below_set (HB.out) GB23.out : Below w.heap.size w w26)); clear HO_4; clear HO_5; clear HO_7; clear HB; have HO_4 := n0_; have HO_5 := n1_; have HO_7 := n2_; have HB := n3_; clear n0_ n1_ n2_ n3_; clear hg hw hp_))
                    go_roundg k2
                    case measure => have := HJ8.out; have := HK2.out; omega
                    case rel => exact ⟨(y277), (wrap64 (x10_2 + 1)), (by first | rfl | (simp; done) | (simp [*]; done)), H', ⟨by have := HJ8.out; have := HK2.out; omega⟩, ⟨by (with_reducible repeat (first | apply Kd.R_alloc | apply Kd.R_drewN | apply Kd.R_drew)); exact Kd.R_mono HO_4.out (fun _ hk => ⟨hk.2, hk.1⟩)⟩, ⟨by (with_reducible repeat (first | apply Kd.R_alloc | apply Kd.R_drewN | apply Kd.R_drew)); exact HO_5.out⟩, ⟨by (with_reducible repeat (first | apply Kd.R_alloc | apply Kd.R_drewN | apply Kd.R_drew)); exact HO_7.out⟩, ⟨by repeat (first | (with_reducible first | exact HB.out | apply below_alloc | apply pw_below_drewN | apply below_drew1) | exact HB.out)⟩⟩
                  · rw [if_neg c22] at H
                    exact absurd H (by simp)
                · rw [if_neg c21] at H
                  have c21b0 : decide (x10_2 < (x5_2.length : Int)) = false := decide_eq_false c21
                  clear c21
                  replace H := Option.bind_eq_some_iff.mp H
                  obtain ⟨⟨t278, t279⟩, A270, H⟩ := H
                  replace H : (if x9_8 = true then ((twoslotref21_Same.f k2 t278 t272).bind fun t282 => (if t282 = true then (if t279 = t273 then ((twoslotref21_Same.f k2 y265 l0).bind fun t283 => (some t283)) else (none)) else (none))) else (none)) = some r := H
                  have A27 := Aside0.mk A270
                  clear A270
                  by_cases c28 : x9_8 = true
                  · subst c28
                    have H1 : ((twoslotref21_Same.f k2 t278 t272).bind fun t282 => (if t282 = true then (if t279 = t273 then ((twoslotref21_Same.f k2 y265 l0).bind fun t283 => (some t283)) else (none)) else (none))) = some r := by rw [if_pos rfl] at H; exact H
                    clear H
                    have H := H1
                    clear H1
                    replace H := Option.bind_eq_some_iff.mp H
                    obtain ⟨t282, A290, H⟩ := H
                    replace H : (if t282 = true then (if t279 = t273 then ((twoslotref21_Same.f k2 y265 l0).bind fun t283 => (some t283)) else (none)) else (none)) = some r := H
                    have A29 := Aside0.mk A290
                    clear A290
                    by_cases c30 : t282 = true
                    · subst c30
                      have H1 : (if t279 = t273 then ((twoslotref21_Same.f k2 y265 l0).bind fun t283 => (some t283)) else (none)) = some r := by rw [if_pos rfl] at H; exact H
                      clear H
                      have H := H1
                      clear H1
                      by_cases c31 : t279 = t273
                      · rw [if_pos c31] at H
                        have c31b0 : (t279 == t273) = true := beq_iff_eq.mpr c31
                        have c31b1 : (t279 != t273) = false := bne_eq_false_iff_eq.mpr c31
                        clear c31
                        replace H := Option.bind_eq_some_iff.mp H
                        obtain ⟨t283, A320, H⟩ := H
                        replace H : (some t283) = some r := H
                        have A32 := Aside0.mk A320
                        clear A320
                        obtain rfl := Option.some.inj H
                        obtain ⟨Ao33, co33, eo33⟩ := Kd.R_slice HO_5.out
                        subst eo33
                        go_wp2_with (first | ((with_reducible refine gate_callee (f := 15) rfl ?_); refine goesL_ (some 51) rfl rfl Tryd.func15 (by kernel_rfl) rfl #[.slice Ao12 y265.length co12] rfl (by (try simp only [List.map_toArray, List.map_cons, List.map_nil]); first | done | rfl | (simp only [List.length_drop, List.length_take]; rfl)) ?_; (with_reducible refine (name_Sort.calls _ _ y265 t278 t279 _ ?side1 ?side2 A27.out).mono ?_); (case side1 => repeat (first | exact (Kd.R_reads' HO_4.out).2.2 | (with_reducible refine Kd.C_alloc ?_ _) | (with_reducible refine Kd.C_drewN ?_ _) | (with_reducible refine Kd.C_drew ?_))); (case side2 => exact (Kd.R_reads' HO_4.out).2.1); rintro e w34 ⟨v280, rfl, ho0, hb⟩; refine ⟨_, rfl, ?_⟩; have n0_ := Aside0.mk (Kd.R_elder' (by (with_reducible repeat (first | apply Kd.R_alloc | apply Kd.R_drewN | apply Kd.R_drew)); exact HO_4.out) (Kd.R_base ho0) hb); have n1_ := Aside0.mk (Kd.R_elder' (by (with_reducible repeat (first | apply Kd.R_alloc | apply Kd.R_drewN | apply Kd.R_drew)); exact HO_5.out) (Kd.R_base ho0) hb); have n2_ := Aside0.mk (Kd.R_elder' (by (with_reducible repeat (first | apply Kd.R_alloc | apply Kd.R_drewN | apply Kd.R_drew)); exact HO_7.out) (Kd.R_base ho0) hb); have n3_ := Aside0.mk (Kd.R_lower (Kd.R_new' (Kd.R_new' (Kd.R_new' ho0 (Kd.R_lt (by (with_reducible repeat (first | apply Kd.R_alloc | apply Kd.R_drewN | apply Kd.R_drew)); exact HO_4.out))) (Kd.R_lt (by (with_reducible repeat (first | apply Kd.R_alloc | apply Kd.R_drewN | apply Kd.R_drew)); exact HO_5.out))) (Kd.R_lt (by (with_reducible repeat (first | apply Kd.R_alloc | apply Kd.R_drewN | apply Kd.R_drew)); exact HO_7.out))) (below_size (by repeat (first | (with_reducible first | exact HB.out | apply below_alloc | apply pw_below_drewN | apply below_drew1) | exact HB.out)))); have n4_ := Aside0.mk (below_step (by repeat (first | (with_reducible first | exact HB.out | apply below_alloc | apply pw_below_drewN | apply below_drew1) | exact HB.out)) hb); clear HO_4; clear HO_5; clear HO_7; clear HB; have HO_4 := n0_; have HO_5 := n1_; have HO_7 := n2_; have HO281 := n3_; have HB := n4_; clear n0_ n1_ n2_ n3_ n4_; (try clear hb); (try clear hb2); (try clear hk); (try clear hi); (try clear ho0); obtain ⟨Ao35, co35, eo35⟩ := Kd.R_slice HO281.out; subst eo35; obtain ⟨Ao36, co36, eo36⟩ := Kd.R_slice HO_7.out; subst eo36) | (go_at_call 23; (with_reducible refine (twoslotref21_Same.calls k2 _ _ t278 _ _ t272 true _ ?side1 ?side2 ?side3 ?side4 A29.out).mono ?_); (case side1 => repeat (first | exact (Kd.R_reads' HO281.out).2.2 | (with_reducible refine Kd.C_alloc ?_ _) | (with_reducible refine Kd.C_drewN ?_ _) | (with_reducible refine Kd.C_drew ?_))); (case side2 => exact (Kd.R_reads' HO281.out).2.1); (case side3 => repeat (first | exact (Kd.R_reads' HO_7.out).2.2 | (with_reducible refine Kd.C_alloc ?_ _) | (with_reducible refine Kd.C_drewN ?_ _) | (with_reducible refine Kd.C_drew ?_))); (case side4 => exact (Kd.R_reads' HO_7.out).2.1); rintro e w' ⟨rfl, ⟨nd, rfl⟩⟩; clear A29) | (go_at_call 23; (with_reducible refine (twoslotref21_Same.calls k2 _ _ y265 _ _ l0 t283 _ ?side1 ?side2 ?side3 ?side4 A32.out).mono ?_); (case side1 => repeat (first | exact (Kd.R_reads' HO_4.out).2.2 | (with_reducible refine Kd.C_alloc ?_ _) | (with_reducible refine Kd.C_drewN ?_ _) | (with_reducible refine Kd.C_drew ?_))); (case side2 => exact (Kd.R_reads' HO_4.out).2.1); (case side3 => repeat (first | exact (Kd.C_below HR0.out (by repeat (first | (with_reducible first | exact HB.out | apply below_alloc | apply pw_below_drewN | apply below_drew1) | exact HB.out))) | (with_reducible refine Kd.C_alloc ?_ _) | (with_reducible refine Kd.C_drewN ?_ _) | (with_reducible refine Kd.C_drew ?_))); (case side4 => exact HC0.out); rintro e w' ⟨rfl, ⟨nd, rfl⟩⟩; clear A32))
                        go_ret
                        exact ⟨by first | rfl | (simp [errW_none, errW_some] <;> rfl) | (simp [*, errW_none, errW_some] <;> rfl), by repeat (first | (with_reducible first | exact HB.out | apply below_alloc | apply pw_below_drewN | apply below_drew1) | exact HB.out)⟩
                      · rw [if_neg c31] at H
                        exact absurd H (by simp)
                    · replace c30 := Bool.eq_false_iff.mpr c30
                      subst c30
                      have H1 : (none) = some r := by rw [if_neg (show ¬ (false = true) by decide)] at H; exact H
                      clear H
                      have H := H1
                      clear H1
                      exact absurd H (by simp)
                  · replace c28 := Bool.eq_false_iff.mpr c28
                    subst c28
                    have H1 : (none) = some r := by rw [if_neg (show ¬ (false = true) by decide)] at H; exact H
                    clear H
                    have H := H1
                    clear H1
                    exact absurd H (by simp)
      · rw [if_neg c6] at H
        exact absurd H (by simp)
  · replace c3 := Bool.eq_false_iff.mpr c3
    subst c3
    have H1 : (none) = some r := by rw [if_neg (show ¬ (false = true) by decide)] at H; exact H
    clear H
    have H := H1
    clear H1
    exact absurd H (by simp)

end Go.Proofs.YtmhfgcmgeglmhaaDoor.P

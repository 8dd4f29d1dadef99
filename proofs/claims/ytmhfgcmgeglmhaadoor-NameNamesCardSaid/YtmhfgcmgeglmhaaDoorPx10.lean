-- Written by a program of this session, after the kit's print.
import Derived.Test.YtmhfgcmgeglmhaaDoorP21J
import Derived.Test.YtmhfgcmgeglmhaaDoorPx0
import Derived.Test.YtmhfgcmgeglmhaaDoorPx1
import Derived.Test.YtmhfgcmgeglmhaaDoorPx4
namespace Go.Proofs.YtmhfgcmgeglmhaaDoor.P
open Go.RowKit Go.Proofs.YtmhfgcmgeglmhaaDoorW.PrintWords Go.Proofs.YtmhfgcmgeglmhaaDoorW.PrintLast Go.Proofs.YtmhfgcmgeglmhaaDoorW.PrintMore
attribute [local go_sem] max2_int min2_int max_two min_two max_three min_three max_four min_four   -- for this text's walks alone
set_option linter.unusedVariables false
set_option linter.unusedSimpArgs false

/-! ### twoslotlaw21_NameBack: function 6 -/
mutual
def twoslotlaw21_NameBack.j0 : Nat → ByteArray → ByteArray → Bool → Option (Bool)
  | 0, _, _, _ => none
  | k + 1, x0, x1, x26 => if x26 = true then (some true) else ((name_Quote.f x0).bind fun bt285 => (if bt285.2 = 0 then ((name_Plain.f bt285.1).bind fun bt287 => (if bt287.2.2 = 0 then (if bt287.2.1 = 0 then (twoslotlaw21_NameBack.j1 k x1 bt285.1 (bt287.1.toList != x0.toList)) else (none)) else (none))) else (if bt285.1.toList = ([] : List UInt8) then ((name_Check.f x0).bind fun t290 => (if t290 = bt285.2 then (twoslotlaw21_NameBack.j3 k x1) else (none))) else (none))))
def twoslotlaw21_NameBack.j3 : Nat → ByteArray → Option (Bool)
  | 0, _ => none
  | k + 1, x1 => (name_Plain.f x1).bind fun bt291 => (if bt291.2.2 = 0 then ((name_Quote.f bt291.1).bind fun bt294 => (if bt294.2 = 0 then (if bt294.1.toList = x1.toList then (some (bt291.2.1 == 0)) else (none)) else (none))) else (if bt291.1.toList = ([] : List UInt8) then (if bt291.2.1 ≥ 0 then (some (decide (bt291.2.1 ≤ (x1.size : Int)))) else (none)) else (none)))
def twoslotlaw21_NameBack.j1 : Nat → ByteArray → ByteArray → Bool → Option (Bool)
  | 0, _, _, _ => none
  | k + 1, x1, x6, x50 => if x50 = true then (none) else (twoslotlaw21_NameBack.l0 k x1 x6 0)
def twoslotlaw21_NameBack.l0 : Nat → ByteArray → ByteArray → Int → Option (Bool)
  | 0, _, _, _ => none
  | k + 1, x1, x6, x11 => if x11 < (x6.size : Int) then (if 0 ≤ x11 then (if (bt x6 x11) < 33 then (none) else (if (bt x6 x11) > 126 then (none) else (twoslotlaw21_NameBack.l0 k x1 x6 (wrap64 (x11 + 1))))) else (none)) else (twoslotlaw21_NameBack.j3 k x1)
end
def twoslotlaw21_NameBack.f (k : Nat) (a0 : ByteArray) (a1 : ByteArray) : Option (Bool) := (twoslotlaw21_alive.f k).bind fun t284 => (if t284 = true then (if (a0.size : Int) > 5000 then (twoslotlaw21_NameBack.j0 k a0 a1 true) else (twoslotlaw21_NameBack.j0 k a0 a1 (decide ((a1.size : Int) > 5000)))) else (none))
theorem twoslotlaw21_NameBack.mono_l : ∀ k, (∀ y0 y1 y2, LeO (twoslotlaw21_NameBack.j0 k y0 y1 y2) (twoslotlaw21_NameBack.j0 (k + 1) y0 y1 y2)) ∧ (∀ y0, LeO (twoslotlaw21_NameBack.j3 k y0) (twoslotlaw21_NameBack.j3 (k + 1) y0)) ∧ (∀ y0 y1 y2, LeO (twoslotlaw21_NameBack.j1 k y0 y1 y2) (twoslotlaw21_NameBack.j1 (k + 1) y0 y1 y2)) ∧ (∀ y0 y1 y2, LeO (twoslotlaw21_NameBack.l0 k y0 y1 y2) (twoslotlaw21_NameBack.l0 (k + 1) y0 y1 y2))
  | 0 => ⟨fun _ _ _ r h => by simp [twoslotlaw21_NameBack.j0] at h, fun _ r h => by simp [twoslotlaw21_NameBack.j3] at h, fun _ _ _ r h => by simp [twoslotlaw21_NameBack.j1] at h, fun _ _ _ r h => by simp [twoslotlaw21_NameBack.l0] at h⟩
  | k + 1 => by
    obtain ⟨ih0, ih1, ih2, ih3⟩ := twoslotlaw21_NameBack.mono_l k
    refine ⟨?_, ?_, ?_, ?_⟩
    · intro y0 y1 y2
      unfold twoslotlaw21_NameBack.j0
      repeat' first
      | (with_reducible exact ih0 _ _ _)
      | (with_reducible exact ih1 _)
      | (with_reducible exact ih2 _ _ _)
      | (with_reducible exact ih3 _ _ _)
      | (with_reducible exact twoslotlaw21_alive.mono _)
      | (with_reducible exact LeO.refl _)
      | (with_reducible exact LeO.none _)
      | (with_reducible refine LeO.ite ?_ ?_)
      | (with_reducible refine LeO.bind ?_ (fun _ => ?_))
      | exact ih0 _ _ _
      | exact ih1 _
      | exact ih2 _ _ _
      | exact ih3 _ _ _
      | exact twoslotlaw21_alive.mono _
      | exact LeO.none _
      | refine LeO.ite ?_ ?_
      | refine LeO.bind ?_ (fun _ => ?_)
    · intro y0
      unfold twoslotlaw21_NameBack.j3
      repeat' first
      | (with_reducible exact ih0 _ _ _)
      | (with_reducible exact ih1 _)
      | (with_reducible exact ih2 _ _ _)
      | (with_reducible exact ih3 _ _ _)
      | (with_reducible exact twoslotlaw21_alive.mono _)
      | (with_reducible exact LeO.refl _)
      | (with_reducible exact LeO.none _)
      | (with_reducible refine LeO.ite ?_ ?_)
      | (with_reducible refine LeO.bind ?_ (fun _ => ?_))
      | exact ih0 _ _ _
      | exact ih1 _
      | exact ih2 _ _ _
      | exact ih3 _ _ _
      | exact twoslotlaw21_alive.mono _
      | exact LeO.none _
      | refine LeO.ite ?_ ?_
      | refine LeO.bind ?_ (fun _ => ?_)
    · intro y0 y1 y2
      unfold twoslotlaw21_NameBack.j1
      repeat' first
      | (with_reducible exact ih0 _ _ _)
      | (with_reducible exact ih1 _)
      | (with_reducible exact ih2 _ _ _)
      | (with_reducible exact ih3 _ _ _)
      | (with_reducible exact twoslotlaw21_alive.mono _)
      | (with_reducible exact LeO.refl _)
      | (with_reducible exact LeO.none _)
      | (with_reducible refine LeO.ite ?_ ?_)
      | (with_reducible refine LeO.bind ?_ (fun _ => ?_))
      | exact ih0 _ _ _
      | exact ih1 _
      | exact ih2 _ _ _
      | exact ih3 _ _ _
      | exact twoslotlaw21_alive.mono _
      | exact LeO.none _
      | refine LeO.ite ?_ ?_
      | refine LeO.bind ?_ (fun _ => ?_)
    · intro y0 y1 y2
      unfold twoslotlaw21_NameBack.l0
      repeat' first
      | (with_reducible exact ih0 _ _ _)
      | (with_reducible exact ih1 _)
      | (with_reducible exact ih2 _ _ _)
      | (with_reducible exact ih3 _ _ _)
      | (with_reducible exact twoslotlaw21_alive.mono _)
      | (with_reducible exact LeO.refl _)
      | (with_reducible exact LeO.none _)
      | (with_reducible refine LeO.ite ?_ ?_)
      | (with_reducible refine LeO.bind ?_ (fun _ => ?_))
      | exact ih0 _ _ _
      | exact ih1 _
      | exact ih2 _ _ _
      | exact ih3 _ _ _
      | exact twoslotlaw21_alive.mono _
      | exact LeO.none _
      | refine LeO.ite ?_ ?_
      | refine LeO.bind ?_ (fun _ => ?_)
theorem twoslotlaw21_NameBack.mono : ∀ a0 a1 k, LeO (twoslotlaw21_NameBack.f k a0 a1) (twoslotlaw21_NameBack.f (k + 1) a0 a1) := by
  intro a0 a1 k
  obtain ⟨ih0, ih1, ih2, ih3⟩ := twoslotlaw21_NameBack.mono_l k
  unfold twoslotlaw21_NameBack.f
  repeat' first
      | (with_reducible exact ih0 _ _ _)
      | (with_reducible exact ih1 _)
      | (with_reducible exact ih2 _ _ _)
      | (with_reducible exact ih3 _ _ _)
      | (with_reducible exact twoslotlaw21_alive.mono _)
      | (with_reducible exact LeO.refl _)
      | (with_reducible exact LeO.none _)
      | (with_reducible refine LeO.ite ?_ ?_)
      | (with_reducible refine LeO.bind ?_ (fun _ => ?_))
      | exact ih0 _ _ _
      | exact ih1 _
      | exact ih2 _ _ _
      | exact ih3 _ _ _
      | exact twoslotlaw21_alive.mono _
      | exact LeO.none _
      | refine LeO.ite ?_ ?_
      | refine LeO.bind ?_ (fun _ => ?_)
set_option maxHeartbeats 8000000 in
set_option maxRecDepth 100000 in
theorem twoslotlaw21_NameBack.calls (k : Nat) (a0 : ByteArray) (a1 : ByteArray) (r : Bool) (w : World) (hV : VarsOk w) (h : twoslotlaw21_NameBack.f k a0 a1 = some r) :
    Calls Tryd.prog 6 #[.string a0, .string a1] w fun e w' => e = .returned (.bool r) ∧ Below w.heap.size w w' := by
  have HV := Aside0.mk hV
  clear hV
  have HB := Aside0.mk (Below.refl w.heap.size w)
  have H : ((twoslotlaw21_alive.f k).bind fun t284 => (if t284 = true then (if (a0.size : Int) > 5000 then (twoslotlaw21_NameBack.j0 k a0 a1 true) else (twoslotlaw21_NameBack.j0 k a0 a1 (decide ((a1.size : Int) > 5000)))) else (none))) = some r := h
  clear h
  replace H := Option.bind_eq_some_iff.mp H
  obtain ⟨t284, A30, H⟩ := H
  replace H : (if t284 = true then (if (a0.size : Int) > 5000 then (twoslotlaw21_NameBack.j0 k a0 a1 true) else (twoslotlaw21_NameBack.j0 k a0 a1 (decide ((a1.size : Int) > 5000)))) else (none)) = some r := H
  have A3 := Aside0.mk A30
  clear A30
  by_cases c4 : t284 = true
  · subst c4
    have H1 : (if (a0.size : Int) > 5000 then (twoslotlaw21_NameBack.j0 k a0 a1 true) else (twoslotlaw21_NameBack.j0 k a0 a1 (decide ((a1.size : Int) > 5000)))) = some r := by rw [if_pos rfl] at H; exact H
    clear H
    have H := H1
    clear H1
    have HC5 := Aside0.mk H
    clear H
    go_enter Tryd.func6, Tryd.ntmps6
    go_upto_region 4 with (first | ((with_reducible refine gate_callee (f := 9) rfl ?_); refine goesL_ (some 16) rfl rfl Tryd.func9 (by kernel_rfl) rfl #[] rfl (by (try simp only [List.map_toArray, List.map_cons, List.map_nil]); first | done | rfl | (simp only [List.length_drop, List.length_take]; rfl)) ?_; (with_reducible refine (twoslotlaw21_alive.calls k  true _ (HV.out.below (by repeat (first | (with_reducible first | exact HB.out | apply below_alloc | apply pw_below_drewN | apply below_drew1) | exact HB.out | exact Below.refl _ _))) A3.out).mono ?_); rintro e w6 ⟨rfl, hb⟩; refine ⟨_, rfl, ?_⟩; have n0_ := Aside0.mk (below_step (by repeat (first | (with_reducible first | exact HB.out | apply below_alloc | apply pw_below_drewN | apply below_drew1) | exact HB.out)) hb); clear HB; have HB := n0_; clear n0_; (try clear hb); (try clear hb2); (try clear hk); (try clear hi)))
    (try simp only [Act.put, List.setIfInBounds_toArray, List.set_cons_zero, List.set_cons_succ])
    go_cut [26] (fun v26 wc => ∃ (kq : Nat) (x26_4 : Bool), v26 = .bool x26_4 ∧ Aside0 (twoslotlaw21_NameBack.j0 kq a0 a1 x26_4 = some r) ∧ Aside0 (kq ≤ k) ∧ Aside0 (Below w.heap.size w wc))
    case first =>
      have H := HC5.out
      clear HC5
      by_cases c7 : (a0.size : Int) > 5000
      · rw [if_pos c7] at H
        have c7b0 : decide (5000 < (a0.size : Int)) = true := decide_eq_true c7
        have c7b1 : decide (5000 < a0.size) = true := decide_eq_true (by omega)
        clear c7
        (first | rw [c7b0] | (simp only [i64_w, i32_w]; rw [c7b0]) | skip)
        have H' := Aside0.mk H
        clear H
        go_wp2
        go_meet
        case rel => exact ⟨_, (true), (by first | rfl | (simp; done) | (simp [*]; done)), H', ⟨by first | omega | exact Nat.le_refl _⟩, ⟨by repeat (first | (with_reducible first | exact HB.out | apply below_alloc | apply pw_below_drewN | apply below_drew1) | exact HB.out)⟩⟩
      · rw [if_neg c7] at H
        have c7b0 : decide (5000 < (a0.size : Int)) = false := decide_eq_false c7
        have c7b1 : decide (5000 < a0.size) = false := decide_eq_false (by omega)
        clear c7
        (first | rw [c7b0] | (simp only [i64_w, i32_w]; rw [c7b0]) | skip)
        have H' := Aside0.mk H
        clear H
        go_wp2
        go_meet
        case rel => exact ⟨_, (decide ((a1.size : Int) > 5000)), (by first | rfl | (simp; done) | (simp [*]; done)), H', ⟨by first | omega | exact Nat.le_refl _⟩, ⟨by repeat (first | (with_reducible first | exact HB.out | apply below_alloc | apply pw_below_drewN | apply below_drew1) | exact HB.out)⟩⟩
    case rest =>
      clear HC5
      try clear p2
      try clear c4
      try clear c6
      try clear c7
      try clear c7b0
      try clear c7b1
      obtain ⟨kq, x26_4, rfl, HA, HJ4, HB⟩ := hcut
      cases kq with
      | zero => exact absurd HA.out (by simp [twoslotlaw21_NameBack.j0])
      | succ kj4 =>
        have H := HA.out
        clear HA
        simp only [twoslotlaw21_NameBack.j0] at H
        by_cases c8 : x26_4 = true
        · subst c8
          have H1 : (some true) = some r := by rw [if_pos rfl] at H; exact H
          clear H
          have H := H1
          clear H1
          obtain rfl := Option.some.inj H
          go_wp2
          go_ret
          exact ⟨by first | rfl | (simp [errW_none, errW_some] <;> rfl) | (simp [*, errW_none, errW_some] <;> rfl), by repeat (first | (with_reducible first | exact HB.out | apply below_alloc | apply pw_below_drewN | apply below_drew1) | exact HB.out)⟩
        · replace c8 := Bool.eq_false_iff.mpr c8
          subst c8
          have H1 : ((name_Quote.f a0).bind fun bt285 => (if bt285.2 = 0 then ((name_Plain.f bt285.1).bind fun bt287 => (if bt287.2.2 = 0 then (if bt287.2.1 = 0 then (twoslotlaw21_NameBack.j1 kj4 a1 bt285.1 (bt287.1.toList != a0.toList)) else (none)) else (none))) else (if bt285.1.toList = ([] : List UInt8) then ((name_Check.f a0).bind fun t290 => (if t290 = bt285.2 then (twoslotlaw21_NameBack.j3 kj4 a1) else (none))) else (none)))) = some r := by rw [if_neg (show ¬ (false = true) by decide)] at H; exact H
          clear H
          have H := H1
          clear H1
          replace H := Option.bind_eq_some_iff.mp H
          obtain ⟨⟨t285, t286⟩, A90, H⟩ := H
          replace H : (if t286 = 0 then ((name_Plain.f t285).bind fun bt287 => (if bt287.2.2 = 0 then (if bt287.2.1 = 0 then (twoslotlaw21_NameBack.j1 kj4 a1 t285 (bt287.1.toList != a0.toList)) else (none)) else (none))) else (if t285.toList = ([] : List UInt8) then ((name_Check.f a0).bind fun t290 => (if t290 = t286 then (twoslotlaw21_NameBack.j3 kj4 a1) else (none))) else (none))) = some r := H
          have A9 := Aside0.mk A90
          clear A90
          have HC10 := Aside0.mk H
          clear H
          go_upto_if 33 with (first | ((with_reducible refine gate_callee (f := 10) rfl ?_); refine goesL_ (some 29) rfl rfl Tryd.func10 (by kernel_rfl) rfl #[.string a0] rfl (by (try simp only [List.map_toArray, List.map_cons, List.map_nil]); first | done | rfl | (simp only [List.length_drop, List.length_take]; rfl)) ?_; (with_reducible refine (name_Quote.calls a0 t285 t286 _ A9.out).mono ?_); rintro e w11 ⟨rfl, hb⟩; refine ⟨_, rfl, ?_⟩; have n0_ := Aside0.mk (below_step (by repeat (first | (with_reducible first | exact HB.out | apply below_alloc | apply pw_below_drewN | apply below_drew1) | exact HB.out)) hb); clear HB; have HB := n0_; clear n0_; (try clear hb); (try clear hb2); (try clear hk); (try clear hi)))
          (try simp only [Act.put, List.setIfInBounds_toArray, List.set_cons_zero, List.set_cons_succ])
          go_cut [] (fun wc => ∃ (kq : Nat), Aside0 (twoslotlaw21_NameBack.j3 kq a1 = some r) ∧ Aside0 (kq ≤ kj4) ∧ Aside0 (Below w.heap.size w wc))
          case first =>
            have H := HC10.out
            clear HC10
            by_cases c12 : t286 = 0
            · rw [if_pos c12] at H
              have c12b0 : (t286 == 0) = true := beq_iff_eq.mpr c12
              have c12b1 : (t286 != 0) = false := bne_eq_false_iff_eq.mpr c12
              clear c12
              (first | rw [c12b0] | (simp only [i64_w, i32_w]; rw [c12b0]) | skip)
              replace H := Option.bind_eq_some_iff.mp H
              obtain ⟨⟨t287, t288, t289⟩, A130, H⟩ := H
              replace H : (if t289 = 0 then (if t288 = 0 then (twoslotlaw21_NameBack.j1 kj4 a1 t285 (t287.toList != a0.toList)) else (none)) else (none)) = some r := H
              have A13 := Aside0.mk A130
              clear A130
              have HC14 := Aside0.mk H
              clear H
              go_upto_region 9 with (first | ((with_reducible refine gate_callee (f := 11) rfl ?_); refine goesL_ (some 36) rfl rfl Tryd.func11 (by kernel_rfl) rfl #[.string t285] rfl (by (try simp only [List.map_toArray, List.map_cons, List.map_nil]); first | done | rfl | (simp only [List.length_drop, List.length_take]; rfl)) ?_; (with_reducible refine (name_Plain.calls t285 t287 t288 t289 _ (HV.out.below (by repeat (first | (with_reducible first | exact HB.out | apply below_alloc | apply pw_below_drewN | apply below_drew1) | exact HB.out | exact Below.refl _ _))) A13.out).mono ?_); rintro e w15 ⟨rfl, hb⟩; refine ⟨_, rfl, ?_⟩; have n0_ := Aside0.mk (below_step (by repeat (first | (with_reducible first | exact HB.out | apply below_alloc | apply pw_below_drewN | apply below_drew1) | exact HB.out)) hb); clear HB; have HB := n0_; clear n0_; (try clear hb); (try clear hb2); (try clear hk); (try clear hi)))
              (try simp only [Act.put, List.setIfInBounds_toArray, List.set_cons_zero, List.set_cons_succ])
              go_cut [50] (fun v50 wc => ∃ (kq : Nat) (x50_13 : Bool), v50 = .bool x50_13 ∧ Aside0 (twoslotlaw21_NameBack.j1 kq a1 t285 x50_13 = some r) ∧ Aside0 (kq ≤ kj4) ∧ Aside0 (Below w.heap.size w wc))
              case first =>
                have H := HC14.out
                clear HC14
                by_cases c16 : t289 = 0
                · rw [if_pos c16] at H
                  have c16b0 : (t289 == 0) = true := beq_iff_eq.mpr c16
                  have c16b1 : (t289 != 0) = false := bne_eq_false_iff_eq.mpr c16
                  clear c16
                  (first | rw [c16b0] | (simp only [i64_w, i32_w]; rw [c16b0]) | skip)
                  by_cases c17 : t288 = 0
                  · rw [if_pos c17] at H
                    have c17b0 : (t288 == 0) = true := beq_iff_eq.mpr c17
                    have c17b1 : (t288 != 0) = false := bne_eq_false_iff_eq.mpr c17
                    clear c17
                    have H' := Aside0.mk H
                    clear H
                    go_wp2
                    go_meet
                    case rel => exact ⟨_, ((t287.toList != a0.toList)), (by first | rfl | (simp; done) | (simp [*]; done)), H', ⟨by have := HJ4.out; first | omega | exact Nat.le_refl _⟩, ⟨by repeat (first | (with_reducible first | exact HB.out | apply below_alloc | apply pw_below_drewN | apply below_drew1) | exact HB.out)⟩⟩
                  · rw [if_neg c17] at H
                    exact absurd H (by simp)
                · rw [if_neg c16] at H
                  exact absurd H (by simp)
              case rest =>
                clear HC14
                try clear c1
                try clear p2
                try clear c4
                try clear c6
                try clear c7
                try clear c7b0
                try clear c7b1
                try clear c8
                try clear c9
                try clear c10
                try clear c11
                try clear c12
                try clear c12b0
                try clear c12b1
                try clear c16
                try clear c16b0
                try clear c16b1
                try clear c17
                try clear c17b0
                try clear c17b1
                try clear p2
                obtain ⟨kq, x50_13, rfl, HA, HJ13, HB⟩ := hcut
                cases kq with
                | zero => exact absurd HA.out (by simp [twoslotlaw21_NameBack.j1])
                | succ kj13 =>
                  have H := HA.out
                  clear HA
                  simp only [twoslotlaw21_NameBack.j1] at H
                  by_cases c18 : x50_13 = true
                  · subst c18
                    have H1 : (none) = some r := by rw [if_pos rfl] at H; exact H
                    clear H
                    have H := H1
                    clear H1
                    exact absurd H (by simp)
                  · replace c18 := Bool.eq_false_iff.mpr c18
                    subst c18
                    have H1 : (twoslotlaw21_NameBack.l0 kj13 a1 t285 0) = some r := by rw [if_neg (show ¬ (false = true) by decide)] at H; exact H
                    clear H
                    have H := H1
                    clear H1
                    have H' := Aside0.mk H
                    clear H
                    go_wp2
                    go_loopg [11] kj13 (fun kq v11 w' => ∃ (x11_3 : Int), v11 = .int .i64 x11_3 ∧ Aside0 (twoslotlaw21_NameBack.l0 kq a1 t285 x11_3 = some r) ∧ Aside0 (kq ≤ kj13) ∧ Aside0 (Below w.heap.size w w'))
                    case atStart => exact ⟨(0), (by first | rfl | (simp; done) | (simp [*]; done)), H', ⟨Nat.le_refl _⟩, ⟨by repeat (first | (with_reducible first | exact HB.out | apply below_alloc | apply pw_below_drewN | apply below_drew1) | exact HB.out)⟩⟩
                    case round =>
                      clear H'
                      try clear c1
                      try clear p2
                      try clear c4
                      try clear c6
                      try clear c7
                      try clear c7b0
                      try clear c7b1
                      try clear c8
                      try clear c9
                      try clear c10
                      try clear c11
                      try clear c12
                      try clear c12b0
                      try clear c12b1
                      try clear c16
                      try clear c16b0
                      try clear c16b1
                      try clear c17
                      try clear c17b0
                      try clear c17b1
                      try clear c18
                      try clear p2
                      obtain ⟨x11_3, rfl, HA, HK3, HB⟩ := hrel
                      cases gk with
                      | zero => exact absurd HA.out (by simp [twoslotlaw21_NameBack.l0])
                      | succ k3 =>
                        have H := HA.out
                        clear HA
                        simp only [twoslotlaw21_NameBack.l0] at H
                        by_cases c19 : x11_3 < (t285.size : Int)
                        · rw [if_pos c19] at H
                          have c19b0 : decide (x11_3 < (t285.size : Int)) = true := decide_eq_true c19
                          clear c19
                          by_cases c20 : 0 ≤ x11_3
                          · rw [if_pos c20] at H
                            have c20b0 : decide (0 ≤ x11_3) = true := decide_eq_true c20
                            clear c20
                            by_cases c22 : (bt t285 x11_3) < 33
                            · rw [if_pos c22] at H
                              exact absurd H (by simp)
                            · rw [if_neg c22] at H
                              have c22b0 : decide ((bt t285 x11_3) < 33) = false := decide_eq_false c22
                              clear c22
                              by_cases c24 : (bt t285 x11_3) > 126
                              · rw [if_pos c24] at H
                                exact absurd H (by simp)
                              · rw [if_neg c24] at H
                                have c24b0 : decide (126 < (bt t285 x11_3)) = false := decide_eq_false c24
                                clear c24
                                have H' := Aside0.mk H
                                clear H
                                have p21 : 0 ≤ (x11_3 : Int) := of_decide_eq_true (by first | (with_reducible assumption) | assumption)
                                have q21 : x11_3 < (t285.size : Int) := of_decide_eq_true (by first | (with_reducible assumption) | assumption)
                                have hx21 := bt_at t285 x11_3
                                replace p21 := eq_true p21
                                replace q21 := eq_true q21
                                have p23 : 0 ≤ (x11_3 : Int) := of_decide_eq_true (by first | (with_reducible assumption) | assumption)
                                have q23 : x11_3 < (t285.size : Int) := of_decide_eq_true (by first | (with_reducible assumption) | assumption)
                                have hx23 := bt_at t285 x11_3
                                replace p23 := eq_true p23
                                replace q23 := eq_true q23
                                go_wp2
                                go_roundg k3
                                case measure => have := HJ4.out; have := HJ13.out; have := HK3.out; omega
                                case rel => exact ⟨(wrap64 (x11_3 + 1)), (by first | rfl | (simp; done) | (simp [*]; done)), H', ⟨by have := HJ4.out; have := HJ13.out; have := HK3.out; omega⟩, ⟨by repeat (first | (with_reducible first | exact HB.out | apply below_alloc | apply pw_below_drewN | apply below_drew1) | exact HB.out)⟩⟩
                          · rw [if_neg c20] at H
                            exact absurd H (by simp)
                        · rw [if_neg c19] at H
                          have c19b0 : decide (x11_3 < (t285.size : Int)) = false := decide_eq_false c19
                          clear c19
                          have H' := Aside0.mk H
                          clear H
                          go_wp2
                          go_meet
                          case rel => exact ⟨_, H', ⟨by have := HJ4.out; have := HJ13.out; have := HK3.out; first | omega | exact Nat.le_refl _⟩, ⟨by repeat (first | (with_reducible first | exact HB.out | apply below_alloc | apply pw_below_drewN | apply below_drew1) | exact HB.out)⟩⟩
            · rw [if_neg c12] at H
              have c12b0 : (t286 == 0) = false := beq_eq_false_iff_ne.mpr c12
              have c12b1 : (t286 != 0) = true := bne_iff_ne.mpr c12
              (first | rw [c12b0] | (simp only [i64_w, i32_w]; rw [c12b0]) | skip)
              by_cases c25 : t285.toList = ([] : List UInt8)
              · rw [if_pos c25] at H
                have c25b0 : (t285.toList == ([] : List UInt8)) = true := beq_iff_eq.mpr c25
                have c25b1 : (t285.toList != ([] : List UInt8)) = false := bne_eq_false_iff_eq.mpr c25
                clear c25
                replace H := Option.bind_eq_some_iff.mp H
                obtain ⟨t290, A260, H⟩ := H
                replace H : (if t290 = t286 then (twoslotlaw21_NameBack.j3 kj4 a1) else (none)) = some r := H
                have A26 := Aside0.mk A260
                clear A260
                by_cases c27 : t290 = t286
                · rw [if_pos c27] at H
                  have c27b0 : (t290 == t286) = true := beq_iff_eq.mpr c27
                  have c27b1 : (t290 != t286) = false := bne_eq_false_iff_eq.mpr c27
                  clear c27
                  have H' := Aside0.mk H
                  clear H
                  go_wp2_with (first | (go_at_call 18; (with_reducible refine (name_Check.calls a0 t290 _ A26.out).mono ?_); rintro e w' ⟨rfl, ⟨nd, rfl⟩⟩))
                  go_meet
                  case rel => exact ⟨_, H', ⟨by have := HJ4.out; first | omega | exact Nat.le_refl _⟩, ⟨by repeat (first | (with_reducible first | exact HB.out | apply below_alloc | apply pw_below_drewN | apply below_drew1) | exact HB.out)⟩⟩
                · rw [if_neg c27] at H
                  exact absurd H (by simp)
              · rw [if_neg c25] at H
                exact absurd H (by simp)
          case rest =>
            clear HC10
            try clear c1
            try clear c2
            try clear p2
            try clear q2
            try clear hx2
            try clear c4
            try clear c6
            try clear p6
            try clear c7
            try clear c7b0
            try clear c7b1
            try clear c8
            try clear c9
            try clear c10
            try clear c11
            try clear c12
            try clear c12b0
            try clear c12b1
            try clear c16
            try clear c16b0
            try clear c16b1
            try clear c17
            try clear c17b0
            try clear c17b1
            try clear c18
            try clear c19
            try clear c19b0
            try clear c20
            try clear c20b0
            try clear p21
            try clear q21
            try clear hx21
            try clear c22
            try clear c22b0
            try clear p23
            try clear q23
            try clear hx23
            try clear c24
            try clear c24b0
            try clear c25
            try clear c25b0
            try clear c25b1
            try clear c27
            try clear c27b0
            try clear c27b1
            try clear p2
            try clear p21
            try clear p23
            try clear q21
            try clear q23
            obtain ⟨kq, HA, HJ9, HB⟩ := hcut
            cases kq with
            | zero => exact absurd HA.out (by simp [twoslotlaw21_NameBack.j3])
            | succ kj9 =>
              have H := HA.out
              clear HA
              simp only [twoslotlaw21_NameBack.j3] at H
              replace H := Option.bind_eq_some_iff.mp H
              obtain ⟨⟨t291, t292, t293⟩, A280, H⟩ := H
              replace H : (if t293 = 0 then ((name_Quote.f t291).bind fun bt294 => (if bt294.2 = 0 then (if bt294.1.toList = a1.toList then (some (t292 == 0)) else (none)) else (none))) else (if t291.toList = ([] : List UInt8) then (if t292 ≥ 0 then (some (decide (t292 ≤ (a1.size : Int)))) else (none)) else (none))) = some r := H
              have A28 := Aside0.mk A280
              clear A280
              by_cases c29 : t293 = 0
              · rw [if_pos c29] at H
                have c29b0 : (t293 == 0) = true := beq_iff_eq.mpr c29
                have c29b1 : (t293 != 0) = false := bne_eq_false_iff_eq.mpr c29
                clear c29
                replace H := Option.bind_eq_some_iff.mp H
                obtain ⟨⟨t294, t295⟩, A300, H⟩ := H
                replace H : (if t295 = 0 then (if t294.toList = a1.toList then (some (t292 == 0)) else (none)) else (none)) = some r := H
                have A30 := Aside0.mk A300
                clear A300
                by_cases c31 : t295 = 0
                · rw [if_pos c31] at H
                  have c31b0 : (t295 == 0) = true := beq_iff_eq.mpr c31
                  have c31b1 : (t295 != 0) = false := bne_eq_false_iff_eq.mpr c31
                  clear c31
                  by_cases c32 : t294.toList = a1.toList
                  · rw [if_pos c32] at H
                    have c32b0 : (t294.toList == a1.toList) = true := beq_iff_eq.mpr c32
                    have c32b1 : (t294.toList != a1.toList) = false := bne_eq_false_iff_eq.mpr c32
                    clear c32
                    obtain rfl := Option.some.inj H
                    go_wp2_with (first | ((with_reducible refine gate_callee (f := 11) rfl ?_); refine goesL_ (some 77) rfl rfl Tryd.func11 (by kernel_rfl) rfl #[.string a1] rfl (by (try simp only [List.map_toArray, List.map_cons, List.map_nil]); first | done | rfl | (simp only [List.length_drop, List.length_take]; rfl)) ?_; (with_reducible refine (name_Plain.calls a1 t291 t292 t293 _ (HV.out.below (by repeat (first | (with_reducible first | exact HB.out | apply below_alloc | apply pw_below_drewN | apply below_drew1) | exact HB.out | exact Below.refl _ _))) A28.out).mono ?_); rintro e w33 ⟨rfl, hb⟩; refine ⟨_, rfl, ?_⟩; have n0_ := Aside0.mk (below_step (by repeat (first | (with_reducible first | exact HB.out | apply below_alloc | apply pw_below_drewN | apply below_drew1) | exact HB.out)) hb); clear HB; have HB := n0_; clear n0_; (try clear hb); (try clear hb2); (try clear hk); (try clear hi)) | ((with_reducible refine gate_callee (f := 10) rfl ?_); refine goesL_ (some 97) rfl rfl Tryd.func10 (by kernel_rfl) rfl #[.string t291] rfl (by (try simp only [List.map_toArray, List.map_cons, List.map_nil]); first | done | rfl | (simp only [List.length_drop, List.length_take]; rfl)) ?_; (with_reducible refine (name_Quote.calls t291 t294 t295 _ A30.out).mono ?_); rintro e w34 ⟨rfl, hb⟩; refine ⟨_, rfl, ?_⟩; have n0_ := Aside0.mk (below_step (by repeat (first | (with_reducible first | exact HB.out | apply below_alloc | apply pw_below_drewN | apply below_drew1) | exact HB.out)) hb); clear HB; have HB := n0_; clear n0_; (try clear hb); (try clear hb2); (try clear hk); (try clear hi)))
                    go_ret
                    exact ⟨by first | rfl | (simp [errW_none, errW_some] <;> rfl) | (simp [*, errW_none, errW_some] <;> rfl), by repeat (first | (with_reducible first | exact HB.out | apply below_alloc | apply pw_below_drewN | apply below_drew1) | exact HB.out)⟩
                  · rw [if_neg c32] at H
                    exact absurd H (by simp)
                · rw [if_neg c31] at H
                  exact absurd H (by simp)
              · rw [if_neg c29] at H
                have c29b0 : (t293 == 0) = false := beq_eq_false_iff_ne.mpr c29
                have c29b1 : (t293 != 0) = true := bne_iff_ne.mpr c29
                by_cases c35 : t291.toList = ([] : List UInt8)
                · rw [if_pos c35] at H
                  have c35b0 : (t291.toList == ([] : List UInt8)) = true := beq_iff_eq.mpr c35
                  have c35b1 : (t291.toList != ([] : List UInt8)) = false := bne_eq_false_iff_eq.mpr c35
                  clear c35
                  by_cases c36 : t292 ≥ 0
                  · rw [if_pos c36] at H
                    have c36b0 : decide (0 ≤ t292) = true := decide_eq_true c36
                    clear c36
                    obtain rfl := Option.some.inj H
                    go_wp2_with (first | ((with_reducible refine gate_callee (f := 11) rfl ?_); refine goesL_ (some 77) rfl rfl Tryd.func11 (by kernel_rfl) rfl #[.string a1] rfl (by (try simp only [List.map_toArray, List.map_cons, List.map_nil]); first | done | rfl | (simp only [List.length_drop, List.length_take]; rfl)) ?_; (with_reducible refine (name_Plain.calls a1 t291 t292 t293 _ (HV.out.below (by repeat (first | (with_reducible first | exact HB.out | apply below_alloc | apply pw_below_drewN | apply below_drew1) | exact HB.out | exact Below.refl _ _))) A28.out).mono ?_); rintro e w37 ⟨rfl, hb⟩; refine ⟨_, rfl, ?_⟩; have n0_ := Aside0.mk (below_step (by repeat (first | (with_reducible first | exact HB.out | apply below_alloc | apply pw_below_drewN | apply below_drew1) | exact HB.out)) hb); clear HB; have HB := n0_; clear n0_; (try clear hb); (try clear hb2); (try clear hk); (try clear hi)))
                    go_ret
                    exact ⟨by first | rfl | (simp [errW_none, errW_some] <;> rfl) | (simp [*, errW_none, errW_some] <;> rfl), by repeat (first | (with_reducible first | exact HB.out | apply below_alloc | apply pw_below_drewN | apply below_drew1) | exact HB.out)⟩
                  · rw [if_neg c36] at H
                    exact absurd H (by simp)
                · rw [if_neg c35] at H
                  exact absurd H (by simp)
  · replace c4 := Bool.eq_false_iff.mpr c4
    subst c4
    have H1 : (none) = some r := by rw [if_neg (show ¬ (false = true) by decide)] at H; exact H
    clear H
    have H := H1
    clear H1
    exact absurd H (by simp)

/-- THE ONE PURE STATEMENT of twoslotlaw21_NameBack: yours. -/
def twoslotlaw21_NameBack.Pure : Prop := ∀ (a0 : ByteArray) (a1 : ByteArray), a0.size ≤ 140737488351232 → a1.size ≤ 140737488351232 → ∃ k, twoslotlaw21_NameBack.f k a0 a1 = some true
theorem twoslotlaw21_NameBack.walk (P : twoslotlaw21_NameBack.Pure) (a0 : ByteArray) (a1 : ByteArray) (w : World) (hV : VarsOk w) (w0 : a0.size ≤ 140737488351232) (w1 : a1.size ≤ 140737488351232) :
    Calls Tryd.prog 6 #[.string a0, .string a1] w fun e w' => e = .returned (.bool true) ∧ Below w.heap.size w w' := by
  obtain ⟨k, h⟩ := P a0 a1 w0 w1
  refine (twoslotlaw21_NameBack.calls k a0 a1 true w hV h).mono ?_
  rintro e w' ⟨rfl, hd⟩
  exact ⟨rfl, hd⟩

-- NOT PRINTED: function 7 (twoslotlaw21_NameOrder)

end Go.Proofs.YtmhfgcmgeglmhaaDoor.P

import Derived.Test.YtmhfgcmgeglmhaaDoorPx5
-- Written by a program of this session, after the kit's print.
import Derived.Test.YtmhfgcmgeglmhaaDoorP21J
import Derived.Test.YtmhfgcmgeglmhaaDoorPx0
import Derived.Test.YtmhfgcmgeglmhaaDoorPx4
namespace Go.Proofs.YtmhfgcmgeglmhaaDoor.P
open Go.RowKit Go.Proofs.YtmhfgcmgeglmhaaDoorW.PrintWords Go.Proofs.YtmhfgcmgeglmhaaDoorW.PrintLast Go.Proofs.YtmhfgcmgeglmhaaDoorW.PrintMore
attribute [local go_sem] max2_int min2_int max_two min_two max_three min_three max_four min_four   -- for this text's walks alone
set_option linter.unusedVariables false
set_option linter.unusedSimpArgs false

/-! ### twoslotlaw21_NameNames: function 3 -/
def twoslotlaw21_NameNames.l0 : Nat → Int → Option (Bool)
  | 0, _ => none
  | k + 1, x2 => if x2 < 256 then ((some (([(x2) % 256] : List Int) : List Int)).bind fun y186 => ((name_Quote.f (strOfNums y186)).bind fun bt189 => ((name_Plain.f bt189.1).bind fun bt191 => ((name_Bucket.f k (strOfNums y186)).bind fun bt194 => ((twoslotref21_Quote.f k (strOfNums y186)).bind fun bt196 => (if bt189.2 = 0 then (if bt191.2.2 = 0 then (if bt194.2 = 0 then (if bt191.1.toList = (strOfNums y186).toList then (if bt191.2.1 = 0 then (if bt189.1.toList = bt196.1.toList then (if bt194.1 = (Int.tmod x2 4) then (twoslotlaw21_NameNames.l0 k (wrap64 (x2 + 1))) else (none)) else (none)) else (none)) else (none)) else (none)) else (none)) else (none))))))) else ((twoslotlaw21_row.f k 24 255).bind fun t198 => ((name_Quote.f t198).bind fun bt199 => ((twoslotlaw21_row.f k 25 97).bind fun t201 => ((name_Quote.f t201).bind fun bt202 => ((twoslotlaw21_row.f k 25 97).bind fun t204 => (if 1 + t204.size ≤ 9223372036854775807 then (if ((⟨#[34]⟩ : ByteArray) ++ t204).size + 1 ≤ 9223372036854775807 then ((name_Plain.f (((⟨#[34]⟩ : ByteArray) ++ t204) ++ (⟨#[34]⟩ : ByteArray))).bind fun bt205 => ((name_Plain.f bt199.1).bind fun bt208 => ((twoslotlaw21_row.f k 24 255).bind fun t211 => ((name_Bucket.f k t211).bind fun bt212 => (if 65537 ≤ 17592186044416 then ((some (List.replicate 65537 (⟨#[]⟩ : ByteArray) : List ByteArray)).bind fun y214 => ((name_Sort.f y214).bind fun bt217 => (if 1 ≤ (y214.length : Int) then ((name_Sort.f (y214.drop 1)).bind fun bt225 => (if bt199.2 = 0 then (if bt202.2 = 6 then (if bt205.2.2 = 6 then (if bt205.2.1 = 0 then (if bt208.2.2 = 0 then ((twoslotlaw21_row.f k 24 255).bind fun t229 => (if bt208.1.toList = t229.toList then (if bt212.2 = 0 then (if bt212.1 = 0 then (if bt217.2 = 20 then (some (bt225.2 == 6)) else (none)) else (none)) else (none)) else (none))) else (none)) else (none)) else (none)) else (none)) else (none))) else (none)))) else (none)))))) else (none)) else (none)))))))
def twoslotlaw21_NameNames.f (k : Nat)  : Option (Bool) := (twoslotlaw21_alive.f k).bind fun t185 => (if t185 = true then (twoslotlaw21_NameNames.l0 k 0) else (none))
theorem twoslotlaw21_NameNames.mono_l : ∀ k, (∀ y0, LeO (twoslotlaw21_NameNames.l0 k y0) (twoslotlaw21_NameNames.l0 (k + 1) y0))
  | 0 => fun _ r h => by simp [twoslotlaw21_NameNames.l0] at h
  | k + 1 => by
    have ih0 := twoslotlaw21_NameNames.mono_l k
    · intro y0
      unfold twoslotlaw21_NameNames.l0
      repeat' first
      | (with_reducible exact ih0 _)
      | (with_reducible exact name_Bucket.mono _ _)
      | (with_reducible exact twoslotlaw21_alive.mono _)
      | (with_reducible exact twoslotlaw21_row.mono _ _ _)
      | (with_reducible exact twoslotref21_Quote.mono _ _)
      | (with_reducible exact LeO.refl _)
      | (with_reducible exact LeO.none _)
      | (with_reducible refine LeO.ite ?_ ?_)
      | (with_reducible refine LeO.bind ?_ (fun _ => ?_))
      | exact ih0 _
      | exact name_Bucket.mono _ _
      | exact twoslotlaw21_alive.mono _
      | exact twoslotlaw21_row.mono _ _ _
      | exact twoslotref21_Quote.mono _ _
      | exact LeO.none _
      | refine LeO.ite ?_ ?_
      | refine LeO.bind ?_ (fun _ => ?_)
theorem twoslotlaw21_NameNames.mono : ∀ k, LeO (twoslotlaw21_NameNames.f k ) (twoslotlaw21_NameNames.f (k + 1) ) := by
  intro  k
  have ih0 := twoslotlaw21_NameNames.mono_l k
  unfold twoslotlaw21_NameNames.f
  repeat' first
      | (with_reducible exact ih0 _)
      | (with_reducible exact name_Bucket.mono _ _)
      | (with_reducible exact twoslotlaw21_alive.mono _)
      | (with_reducible exact twoslotlaw21_row.mono _ _ _)
      | (with_reducible exact twoslotref21_Quote.mono _ _)
      | (with_reducible exact LeO.refl _)
      | (with_reducible exact LeO.none _)
      | (with_reducible refine LeO.ite ?_ ?_)
      | (with_reducible refine LeO.bind ?_ (fun _ => ?_))
      | exact ih0 _
      | exact name_Bucket.mono _ _
      | exact twoslotlaw21_alive.mono _
      | exact twoslotlaw21_row.mono _ _ _
      | exact twoslotref21_Quote.mono _ _
      | exact LeO.none _
      | refine LeO.ite ?_ ?_
      | refine LeO.bind ?_ (fun _ => ?_)
set_option maxHeartbeats 8000000 in
set_option maxRecDepth 100000 in
theorem twoslotlaw21_NameNames.calls (k : Nat)  (r : Bool) (w : World) (hV : VarsOk w) (h : twoslotlaw21_NameNames.f k  = some r) :
    Calls Tryd.prog 3 #[] w fun e w' => e = .returned (.bool r) ∧ Below w.heap.size w w' := by
  have HV := Aside0.mk hV
  clear hV
  have HB := Aside0.mk (Below.refl w.heap.size w)
  have H : ((twoslotlaw21_alive.f k).bind fun t185 => (if t185 = true then (twoslotlaw21_NameNames.l0 k 0) else (none))) = some r := h
  clear h
  replace H := Option.bind_eq_some_iff.mp H
  obtain ⟨t185, A10, H⟩ := H
  replace H : (if t185 = true then (twoslotlaw21_NameNames.l0 k 0) else (none)) = some r := H
  have A1 := Aside0.mk A10
  clear A10
  by_cases c2 : t185 = true
  · subst c2
    have H1 : (twoslotlaw21_NameNames.l0 k 0) = some r := by rw [if_pos rfl] at H; exact H
    clear H
    have H := H1
    clear H1
    have H' := Aside0.mk H
    clear H
    go_enter Tryd.func3, Tryd.ntmps3
    go_wp2_with (first | ((with_reducible refine gate_callee (f := 9) rfl ?_); refine goesL_ (some 30) rfl rfl Tryd.func9 (by kernel_rfl) rfl #[] rfl (by (try simp only [List.map_toArray, List.map_cons, List.map_nil]); first | done | rfl | (simp only [List.length_drop, List.length_take]; rfl)) ?_; (with_reducible refine (twoslotlaw21_alive.calls k  true _ (HV.out.below (by repeat (first | (with_reducible first | exact HB.out | apply below_alloc | apply pw_below_drewN | apply below_drew1) | exact HB.out | exact Below.refl _ _))) A1.out).mono ?_); rintro e w3 ⟨rfl, hb⟩; refine ⟨_, rfl, ?_⟩; have n0_ := Aside0.mk (below_step (by repeat (first | (with_reducible first | exact HB.out | apply below_alloc | apply pw_below_drewN | apply below_drew1) | exact HB.out)) hb); clear HB; have HB := n0_; clear n0_; (try clear hb); (try clear hb2); (try clear hk); (try clear hi)))
    go_loopg [2] k (fun kq v2 w' => ∃ (x2_1 : Int), v2 = .int .i64 x2_1 ∧ Aside0 (twoslotlaw21_NameNames.l0 kq x2_1 = some r) ∧ Aside0 (kq ≤ k) ∧ Aside0 (Below w.heap.size w w'))
    case atStart => exact ⟨(0), (by first | rfl | (simp; done) | (simp [*]; done)), H', ⟨Nat.le_refl _⟩, ⟨by repeat (first | (with_reducible first | exact HB.out | apply below_alloc | apply pw_below_drewN | apply below_drew1) | exact HB.out)⟩⟩
    case round =>
      clear H'
      try clear c2
      try clear p2
      try clear c3
      obtain ⟨x2_1, rfl, HA, HK1, HB⟩ := hrel
      cases gk with
      | zero => exact absurd HA.out (by simp [twoslotlaw21_NameNames.l0])
      | succ k1 =>
        have H := HA.out
        clear HA
        simp only [twoslotlaw21_NameNames.l0] at H
        by_cases c4 : x2_1 < 256
        · rw [if_pos c4] at H
          have c4b0 : decide (x2_1 < 256) = true := decide_eq_true c4
          clear c4
          obtain ⟨y186, hy186⟩ : ∃ y_ : List Int, y_ = (([(x2_1) % 256] : List Int)) := ⟨_, rfl⟩
          replace H : ((name_Quote.f (strOfNums y186)).bind fun bt189 => ((name_Plain.f bt189.1).bind fun bt191 => ((name_Bucket.f k1 (strOfNums y186)).bind fun bt194 => ((twoslotref21_Quote.f k1 (strOfNums y186)).bind fun bt196 => (if bt189.2 = 0 then (if bt191.2.2 = 0 then (if bt194.2 = 0 then (if bt191.1.toList = (strOfNums y186).toList then (if bt191.2.1 = 0 then (if bt189.1.toList = bt196.1.toList then (if bt194.1 = (Int.tmod x2_1 4) then (twoslotlaw21_NameNames.l0 k1 (wrap64 (x2_1 + 1))) else (none)) else (none)) else (none)) else (none)) else (none)) else (none)) else (none)))))) = some r := by first | (rw [hy186]; with_reducible exact H) | (have H2_ := (Option.bind_some _ _).symm.trans H; rw [hy186]; with_reducible exact H2_) | (have H2_ := (Option.bind_some _ _).symm.trans H; with_reducible exact H2_) | with_reducible exact H | (rw [hy186]; exact H) | exact H
          have Ny186 := Aside0.mk hy186
          clear hy186
          replace H := Option.bind_eq_some_iff.mp H
          obtain ⟨⟨t189, t190⟩, A50, H⟩ := H
          replace H : ((name_Plain.f t189).bind fun bt191 => ((name_Bucket.f k1 (strOfNums y186)).bind fun bt194 => ((twoslotref21_Quote.f k1 (strOfNums y186)).bind fun bt196 => (if t190 = 0 then (if bt191.2.2 = 0 then (if bt194.2 = 0 then (if bt191.1.toList = (strOfNums y186).toList then (if bt191.2.1 = 0 then (if t189.toList = bt196.1.toList then (if bt194.1 = (Int.tmod x2_1 4) then (twoslotlaw21_NameNames.l0 k1 (wrap64 (x2_1 + 1))) else (none)) else (none)) else (none)) else (none)) else (none)) else (none)) else (none))))) = some r := H
          have A5 := Aside0.mk A50
          clear A50
          replace H := Option.bind_eq_some_iff.mp H
          obtain ⟨⟨t191, t192, t193⟩, A60, H⟩ := H
          replace H : ((name_Bucket.f k1 (strOfNums y186)).bind fun bt194 => ((twoslotref21_Quote.f k1 (strOfNums y186)).bind fun bt196 => (if t190 = 0 then (if t193 = 0 then (if bt194.2 = 0 then (if t191.toList = (strOfNums y186).toList then (if t192 = 0 then (if t189.toList = bt196.1.toList then (if bt194.1 = (Int.tmod x2_1 4) then (twoslotlaw21_NameNames.l0 k1 (wrap64 (x2_1 + 1))) else (none)) else (none)) else (none)) else (none)) else (none)) else (none)) else (none)))) = some r := H
          have A6 := Aside0.mk A60
          clear A60
          replace H := Option.bind_eq_some_iff.mp H
          obtain ⟨⟨t194, t195⟩, A70, H⟩ := H
          replace H : ((twoslotref21_Quote.f k1 (strOfNums y186)).bind fun bt196 => (if t190 = 0 then (if t193 = 0 then (if t195 = 0 then (if t191.toList = (strOfNums y186).toList then (if t192 = 0 then (if t189.toList = bt196.1.toList then (if t194 = (Int.tmod x2_1 4) then (twoslotlaw21_NameNames.l0 k1 (wrap64 (x2_1 + 1))) else (none)) else (none)) else (none)) else (none)) else (none)) else (none)) else (none))) = some r := H
          have A7 := Aside0.mk A70
          clear A70
          replace H := Option.bind_eq_some_iff.mp H
          obtain ⟨⟨t196, t197⟩, A80, H⟩ := H
          replace H : (if t190 = 0 then (if t193 = 0 then (if t195 = 0 then (if t191.toList = (strOfNums y186).toList then (if t192 = 0 then (if t189.toList = t196.toList then (if t194 = (Int.tmod x2_1 4) then (twoslotlaw21_NameNames.l0 k1 (wrap64 (x2_1 + 1))) else (none)) else (none)) else (none)) else (none)) else (none)) else (none)) else (none)) = some r := H
          have A8 := Aside0.mk A80
          clear A80
          by_cases c9 : t190 = 0
          · rw [if_pos c9] at H
            have c9b0 : (t190 == 0) = true := beq_iff_eq.mpr c9
            have c9b1 : (t190 != 0) = false := bne_eq_false_iff_eq.mpr c9
            clear c9
            by_cases c10 : t193 = 0
            · rw [if_pos c10] at H
              have c10b0 : (t193 == 0) = true := beq_iff_eq.mpr c10
              have c10b1 : (t193 != 0) = false := bne_eq_false_iff_eq.mpr c10
              clear c10
              by_cases c11 : t195 = 0
              · rw [if_pos c11] at H
                have c11b0 : (t195 == 0) = true := beq_iff_eq.mpr c11
                have c11b1 : (t195 != 0) = false := bne_eq_false_iff_eq.mpr c11
                clear c11
                by_cases c12 : t191.toList = (strOfNums y186).toList
                · rw [if_pos c12] at H
                  have c12b0 : (t191.toList == (strOfNums y186).toList) = true := beq_iff_eq.mpr c12
                  have c12b1 : (t191.toList != (strOfNums y186).toList) = false := bne_eq_false_iff_eq.mpr c12
                  clear c12
                  by_cases c13 : t192 = 0
                  · rw [if_pos c13] at H
                    have c13b0 : (t192 == 0) = true := beq_iff_eq.mpr c13
                    have c13b1 : (t192 != 0) = false := bne_eq_false_iff_eq.mpr c13
                    clear c13
                    by_cases c14 : t189.toList = t196.toList
                    · rw [if_pos c14] at H
                      have c14b0 : (t189.toList == t196.toList) = true := beq_iff_eq.mpr c14
                      have c14b1 : (t189.toList != t196.toList) = false := bne_eq_false_iff_eq.mpr c14
                      clear c14
                      by_cases c15 : t194 = (Int.tmod x2_1 4)
                      · rw [if_pos c15] at H
                        have c15b0 : (t194 == (Int.tmod x2_1 4)) = true := beq_iff_eq.mpr c15
                        have c15b1 : (t194 != (Int.tmod x2_1 4)) = false := bne_eq_false_iff_eq.mpr c15
                        clear c15
                        have H' := Aside0.mk H
                        clear H
                        go_wp2_with (first | ((with_reducible refine gate_dst (N := 39) rfl ?_); refine Kd.R_lit (Kd.int .u8) _ 5 ?hg (N := 39) ?hd (xs := ([(x2_1) % 256] : List Int)) (inner := [.int .u8 ((x2_1) % 256)]) (ok := fun _ => True) (okp := fun _ => True) ?hr ?hp (fun _ hk => hk) trivial (Below.refl _ _) (Nat.le_refl _) (by simp) ?_; (case hd => rfl); (case hg => rfl); (case hr => first | (go_simp; done) | (go_simp; rfl)); (case hp => exact (Reps.one (show Kd.M (Kd.int .u8) _ _ _ ((x2_1) % 256) [.int .u8 ((x2_1) % 256)] from rfl) (Reps.none _ _))); intro v187 w16 ho17 hb hg_ hnew_; clear hg_ hnew_; (first | rw [← Ny186.out] at ho17 | (simp only [Int.reduceToNat] at ho17; rw [← Ny186.out] at ho17)); have n0_ := Aside0.mk (Kd.R_lower ho17 (below_size (by repeat (first | (with_reducible first | exact HB.out | apply below_alloc | apply pw_below_drewN | apply below_drew1) | exact HB.out)))); have n1_ := Aside0.mk (below_step (by repeat (first | (with_reducible first | exact HB.out | apply below_alloc | apply pw_below_drewN | apply below_drew1) | exact HB.out)) hb); clear HB; have HO188 := n0_; have HB := n1_; clear n0_ n1_; clear hb ho17; have hcv18 := own_string (P := Tryd.prog) Tryd.underlying23 Tryd.underlying5 Tryd.underlying9 (Kd.own_of_R HO188.out)) | ((with_reducible refine gate_callee (f := 10) rfl ?_); refine goesL_ (some 43) rfl rfl Tryd.func10 (by kernel_rfl) rfl #[.string (strOfNums y186)] rfl (by (try simp only [List.map_toArray, List.map_cons, List.map_nil]); first | done | rfl | (simp only [List.length_drop, List.length_take]; rfl)) ?_; (with_reducible refine (name_Quote.calls (strOfNums y186) t189 t190 _ A5.out).mono ?_); rintro e w19 ⟨rfl, hb⟩; refine ⟨_, rfl, ?_⟩; have n0_ := Aside0.mk (Kd.R_below (by (with_reducible repeat (first | apply Kd.R_alloc | apply Kd.R_drewN | apply Kd.R_drew)); exact HO188.out) hb); have n1_ := Aside0.mk (below_step (by repeat (first | (with_reducible first | exact HB.out | apply below_alloc | apply pw_below_drewN | apply below_drew1) | exact HB.out)) hb); clear HO188; clear HB; have HO188 := n0_; have HB := n1_; clear n0_ n1_; (try clear hb); (try clear hb2); (try clear hk); (try clear hi)) | ((with_reducible refine gate_callee (f := 11) rfl ?_); refine goesL_ (some 48) rfl rfl Tryd.func11 (by kernel_rfl) rfl #[.string t189] rfl (by (try simp only [List.map_toArray, List.map_cons, List.map_nil]); first | done | rfl | (simp only [List.length_drop, List.length_take]; rfl)) ?_; (with_reducible refine (name_Plain.calls t189 t191 t192 t193 _ (HV.out.below (by repeat (first | (with_reducible first | exact HB.out | apply below_alloc | apply pw_below_drewN | apply below_drew1) | exact HB.out | exact Below.refl _ _))) A6.out).mono ?_); rintro e w20 ⟨rfl, hb⟩; refine ⟨_, rfl, ?_⟩; have n0_ := Aside0.mk (Kd.R_below (by (with_reducible repeat (first | apply Kd.R_alloc | apply Kd.R_drewN | apply Kd.R_drew)); exact HO188.out) hb); have n1_ := Aside0.mk (below_step (by repeat (first | (with_reducible first | exact HB.out | apply below_alloc | apply pw_below_drewN | apply below_drew1) | exact HB.out)) hb); clear HO188; clear HB; have HO188 := n0_; have HB := n1_; clear n0_ n1_; (try clear hb); (try clear hb2); (try clear hk); (try clear hi)) | ((with_reducible refine gate_callee (f := 12) rfl ?_); refine goesL_ (some 54) rfl rfl Tryd.func12 (by kernel_rfl) rfl #[.string (strOfNums y186)] rfl (by (try simp only [List.map_toArray, List.map_cons, List.map_nil]); first | done | rfl | (simp only [List.length_drop, List.length_take]; rfl)) ?_; (with_reducible refine (name_Bucket.calls k1 (strOfNums y186) t194 t195 _ A7.out).mono ?_); rintro e w21 ⟨rfl, hb⟩; refine ⟨_, rfl, ?_⟩; have n0_ := Aside0.mk (Kd.R_below (by (with_reducible repeat (first | apply Kd.R_alloc | apply Kd.R_drewN | apply Kd.R_drew)); exact HO188.out) hb); have n1_ := Aside0.mk (below_step (by repeat (first | (with_reducible first | exact HB.out | apply below_alloc | apply pw_below_drewN | apply below_drew1) | exact HB.out)) hb); clear HO188; clear HB; have HO188 := n0_; have HB := n1_; clear n0_ n1_; (try clear hb); (try clear hb2); (try clear hk); (try clear hi)) | ((with_reducible refine gate_callee (f := 13) rfl ?_); refine goesL_ (some 59) rfl rfl Tryd.func13 (by kernel_rfl) rfl #[.string (strOfNums y186)] rfl (by (try simp only [List.map_toArray, List.map_cons, List.map_nil]); first | done | rfl | (simp only [List.length_drop, List.length_take]; rfl)) ?_; (with_reducible refine (twoslotref21_Quote.calls k1 (strOfNums y186) t196 t197 _ A8.out).mono ?_); rintro e w22 ⟨rfl, hb⟩; refine ⟨_, rfl, ?_⟩; have n0_ := Aside0.mk (Kd.R_below (by (with_reducible repeat (first | apply Kd.R_alloc | apply Kd.R_drewN | apply Kd.R_drew)); exact HO188.out) hb); have n1_ := Aside0.mk (below_step (by repeat (first | (with_reducible first | exact HB.out | apply below_alloc | apply pw_below_drewN | apply below_drew1) | exact HB.out)) hb); clear HO188; clear HB; have HO188 := n0_; have HB := n1_; clear n0_ n1_; (try clear hb); (try clear hb2); (try clear hk); (try clear hi)))
                        go_roundg k1
                        case measure => have := HK1.out; omega
                        case rel => exact ⟨(wrap64 (x2_1 + 1)), (by first | rfl | (simp; done) | (simp [*]; done)), H', ⟨by have := HK1.out; omega⟩, ⟨by repeat (first | (with_reducible first | exact HB.out | apply below_alloc | apply pw_below_drewN | apply below_drew1) | exact HB.out)⟩⟩
                      · rw [if_neg c15] at H
                        exact absurd H (by simp)
                    · rw [if_neg c14] at H
                      exact absurd H (by simp)
                  · rw [if_neg c13] at H
                    exact absurd H (by simp)
                · rw [if_neg c12] at H
                  exact absurd H (by simp)
              · rw [if_neg c11] at H
                exact absurd H (by simp)
            · rw [if_neg c10] at H
              exact absurd H (by simp)
          · rw [if_neg c9] at H
            exact absurd H (by simp)
        · rw [if_neg c4] at H
          have c4b0 : decide (x2_1 < 256) = false := decide_eq_false c4
          clear c4
          replace H := Option.bind_eq_some_iff.mp H
          obtain ⟨t198, A230, H⟩ := H
          replace H : ((name_Quote.f t198).bind fun bt199 => ((twoslotlaw21_row.f k1 25 97).bind fun t201 => ((name_Quote.f t201).bind fun bt202 => ((twoslotlaw21_row.f k1 25 97).bind fun t204 => (if 1 + t204.size ≤ 9223372036854775807 then (if ((⟨#[34]⟩ : ByteArray) ++ t204).size + 1 ≤ 9223372036854775807 then ((name_Plain.f (((⟨#[34]⟩ : ByteArray) ++ t204) ++ (⟨#[34]⟩ : ByteArray))).bind fun bt205 => ((name_Plain.f bt199.1).bind fun bt208 => ((twoslotlaw21_row.f k1 24 255).bind fun t211 => ((name_Bucket.f k1 t211).bind fun bt212 => (if 65537 ≤ 17592186044416 then ((some (List.replicate 65537 (⟨#[]⟩ : ByteArray) : List ByteArray)).bind fun y214 => ((name_Sort.f y214).bind fun bt217 => (if 1 ≤ (y214.length : Int) then ((name_Sort.f (y214.drop 1)).bind fun bt225 => (if bt199.2 = 0 then (if bt202.2 = 6 then (if bt205.2.2 = 6 then (if bt205.2.1 = 0 then (if bt208.2.2 = 0 then ((twoslotlaw21_row.f k1 24 255).bind fun t229 => (if bt208.1.toList = t229.toList then (if bt212.2 = 0 then (if bt212.1 = 0 then (if bt217.2 = 20 then (some (bt225.2 == 6)) else (none)) else (none)) else (none)) else (none))) else (none)) else (none)) else (none)) else (none)) else (none))) else (none)))) else (none)))))) else (none)) else (none)))))) = some r := H
          have A23 := Aside0.mk A230
          clear A230
          replace H := Option.bind_eq_some_iff.mp H
          obtain ⟨⟨t199, t200⟩, A240, H⟩ := H
          replace H : ((twoslotlaw21_row.f k1 25 97).bind fun t201 => ((name_Quote.f t201).bind fun bt202 => ((twoslotlaw21_row.f k1 25 97).bind fun t204 => (if 1 + t204.size ≤ 9223372036854775807 then (if ((⟨#[34]⟩ : ByteArray) ++ t204).size + 1 ≤ 9223372036854775807 then ((name_Plain.f (((⟨#[34]⟩ : ByteArray) ++ t204) ++ (⟨#[34]⟩ : ByteArray))).bind fun bt205 => ((name_Plain.f t199).bind fun bt208 => ((twoslotlaw21_row.f k1 24 255).bind fun t211 => ((name_Bucket.f k1 t211).bind fun bt212 => (if 65537 ≤ 17592186044416 then ((some (List.replicate 65537 (⟨#[]⟩ : ByteArray) : List ByteArray)).bind fun y214 => ((name_Sort.f y214).bind fun bt217 => (if 1 ≤ (y214.length : Int) then ((name_Sort.f (y214.drop 1)).bind fun bt225 => (if t200 = 0 then (if bt202.2 = 6 then (if bt205.2.2 = 6 then (if bt205.2.1 = 0 then (if bt208.2.2 = 0 then ((twoslotlaw21_row.f k1 24 255).bind fun t229 => (if bt208.1.toList = t229.toList then (if bt212.2 = 0 then (if bt212.1 = 0 then (if bt217.2 = 20 then (some (bt225.2 == 6)) else (none)) else (none)) else (none)) else (none))) else (none)) else (none)) else (none)) else (none)) else (none))) else (none)))) else (none)))))) else (none)) else (none))))) = some r := H
          have A24 := Aside0.mk A240
          clear A240
          replace H := Option.bind_eq_some_iff.mp H
          obtain ⟨t201, A250, H⟩ := H
          replace H : ((name_Quote.f t201).bind fun bt202 => ((twoslotlaw21_row.f k1 25 97).bind fun t204 => (if 1 + t204.size ≤ 9223372036854775807 then (if ((⟨#[34]⟩ : ByteArray) ++ t204).size + 1 ≤ 9223372036854775807 then ((name_Plain.f (((⟨#[34]⟩ : ByteArray) ++ t204) ++ (⟨#[34]⟩ : ByteArray))).bind fun bt205 => ((name_Plain.f t199).bind fun bt208 => ((twoslotlaw21_row.f k1 24 255).bind fun t211 => ((name_Bucket.f k1 t211).bind fun bt212 => (if 65537 ≤ 17592186044416 then ((some (List.replicate 65537 (⟨#[]⟩ : ByteArray) : List ByteArray)).bind fun y214 => ((name_Sort.f y214).bind fun bt217 => (if 1 ≤ (y214.length : Int) then ((name_Sort.f (y214.drop 1)).bind fun bt225 => (if t200 = 0 then (if bt202.2 = 6 then (if bt205.2.2 = 6 then (if bt205.2.1 = 0 then (if bt208.2.2 = 0 then ((twoslotlaw21_row.f k1 24 255).bind fun t229 => (if bt208.1.toList = t229.toList then (if bt212.2 = 0 then (if bt212.1 = 0 then (if bt217.2 = 20 then (some (bt225.2 == 6)) else (none)) else (none)) else (none)) else (none))) else (none)) else (none)) else (none)) else (none)) else (none))) else (none)))) else (none)))))) else (none)) else (none)))) = some r := H
          have A25 := Aside0.mk A250
          clear A250
          replace H := Option.bind_eq_some_iff.mp H
          obtain ⟨⟨t202, t203⟩, A260, H⟩ := H
          replace H : ((twoslotlaw21_row.f k1 25 97).bind fun t204 => (if 1 + t204.size ≤ 9223372036854775807 then (if ((⟨#[34]⟩ : ByteArray) ++ t204).size + 1 ≤ 9223372036854775807 then ((name_Plain.f (((⟨#[34]⟩ : ByteArray) ++ t204) ++ (⟨#[34]⟩ : ByteArray))).bind fun bt205 => ((name_Plain.f t199).bind fun bt208 => ((twoslotlaw21_row.f k1 24 255).bind fun t211 => ((name_Bucket.f k1 t211).bind fun bt212 => (if 65537 ≤ 17592186044416 then ((some (List.replicate 65537 (⟨#[]⟩ : ByteArray) : List ByteArray)).bind fun y214 => ((name_Sort.f y214).bind fun bt217 => (if 1 ≤ (y214.length : Int) then ((name_Sort.f (y214.drop 1)).bind fun bt225 => (if t200 = 0 then (if t203 = 6 then (if bt205.2.2 = 6 then (if bt205.2.1 = 0 then (if bt208.2.2 = 0 then ((twoslotlaw21_row.f k1 24 255).bind fun t229 => (if bt208.1.toList = t229.toList then (if bt212.2 = 0 then (if bt212.1 = 0 then (if bt217.2 = 20 then (some (bt225.2 == 6)) else (none)) else (none)) else (none)) else (none))) else (none)) else (none)) else (none)) else (none)) else (none))) else (none)))) else (none)))))) else (none)) else (none))) = some r := H
          have A26 := Aside0.mk A260
          clear A260
          replace H := Option.bind_eq_some_iff.mp H
          obtain ⟨t204, A270, H⟩ := H
          replace H : (if 1 + t204.size ≤ 9223372036854775807 then (if ((⟨#[34]⟩ : ByteArray) ++ t204).size + 1 ≤ 9223372036854775807 then ((name_Plain.f (((⟨#[34]⟩ : ByteArray) ++ t204) ++ (⟨#[34]⟩ : ByteArray))).bind fun bt205 => ((name_Plain.f t199).bind fun bt208 => ((twoslotlaw21_row.f k1 24 255).bind fun t211 => ((name_Bucket.f k1 t211).bind fun bt212 => (if 65537 ≤ 17592186044416 then ((some (List.replicate 65537 (⟨#[]⟩ : ByteArray) : List ByteArray)).bind fun y214 => ((name_Sort.f y214).bind fun bt217 => (if 1 ≤ (y214.length : Int) then ((name_Sort.f (y214.drop 1)).bind fun bt225 => (if t200 = 0 then (if t203 = 6 then (if bt205.2.2 = 6 then (if bt205.2.1 = 0 then (if bt208.2.2 = 0 then ((twoslotlaw21_row.f k1 24 255).bind fun t229 => (if bt208.1.toList = t229.toList then (if bt212.2 = 0 then (if bt212.1 = 0 then (if bt217.2 = 20 then (some (bt225.2 == 6)) else (none)) else (none)) else (none)) else (none))) else (none)) else (none)) else (none)) else (none)) else (none))) else (none)))) else (none)))))) else (none)) else (none)) = some r := H
          have A27 := Aside0.mk A270
          clear A270
          by_cases c28 : 1 + t204.size ≤ 9223372036854775807
          · rw [if_pos c28] at H
            have c28b0 := eq_true c28
            have c28b1 : decide (1 + t204.size ≤ 9223372036854775807) = true := decide_eq_true c28
            try have c28b2 : (9223372036854775807 < 1 + t204.size) = False := eq_false (Nat.not_lt.2 c28)
            by_cases c29 : ((⟨#[34]⟩ : ByteArray) ++ t204).size + 1 ≤ 9223372036854775807
            · rw [if_pos c29] at H
              have c29b0 := eq_true c29
              have c29b1 : decide (((⟨#[34]⟩ : ByteArray) ++ t204).size + 1 ≤ 9223372036854775807) = true := decide_eq_true c29
              try have c29b2 : (9223372036854775807 < ((⟨#[34]⟩ : ByteArray) ++ t204).size + 1) = False := eq_false (Nat.not_lt.2 c29)
              have c29e : ((⟨#[34]⟩ : ByteArray) ++ t204).size = 1 + t204.size := ByteArray.size_append
              have c29b3 : 1 + t204.size + 1 ≤ 9223372036854775807 := by rw [← c29e]; exact c29
              have c29b4 : (9223372036854775807 < 1 + t204.size + 1) = False := eq_false (Nat.not_lt.2 c29b3)
              clear c29e
              replace H := Option.bind_eq_some_iff.mp H
              obtain ⟨⟨t205, t206, t207⟩, A300, H⟩ := H
              replace H : ((name_Plain.f t199).bind fun bt208 => ((twoslotlaw21_row.f k1 24 255).bind fun t211 => ((name_Bucket.f k1 t211).bind fun bt212 => (if 65537 ≤ 17592186044416 then ((some (List.replicate 65537 (⟨#[]⟩ : ByteArray) : List ByteArray)).bind fun y214 => ((name_Sort.f y214).bind fun bt217 => (if 1 ≤ (y214.length : Int) then ((name_Sort.f (y214.drop 1)).bind fun bt225 => (if t200 = 0 then (if t203 = 6 then (if t207 = 6 then (if t206 = 0 then (if bt208.2.2 = 0 then ((twoslotlaw21_row.f k1 24 255).bind fun t229 => (if bt208.1.toList = t229.toList then (if bt212.2 = 0 then (if bt212.1 = 0 then (if bt217.2 = 20 then (some (bt225.2 == 6)) else (none)) else (none)) else (none)) else (none))) else (none)) else (none)) else (none)) else (none)) else (none))) else (none)))) else (none))))) = some r := H
              have A30 := Aside0.mk A300
              clear A300
              replace H := Option.bind_eq_some_iff.mp H
              obtain ⟨⟨t208, t209, t210⟩, A310, H⟩ := H
              replace H : ((twoslotlaw21_row.f k1 24 255).bind fun t211 => ((name_Bucket.f k1 t211).bind fun bt212 => (if 65537 ≤ 17592186044416 then ((some (List.replicate 65537 (⟨#[]⟩ : ByteArray) : List ByteArray)).bind fun y214 => ((name_Sort.f y214).bind fun bt217 => (if 1 ≤ (y214.length : Int) then ((name_Sort.f (y214.drop 1)).bind fun bt225 => (if t200 = 0 then (if t203 = 6 then (if t207 = 6 then (if t206 = 0 then (if t210 = 0 then ((twoslotlaw21_row.f k1 24 255).bind fun t229 => (if t208.toList = t229.toList then (if bt212.2 = 0 then (if bt212.1 = 0 then (if bt217.2 = 20 then (some (bt225.2 == 6)) else (none)) else (none)) else (none)) else (none))) else (none)) else (none)) else (none)) else (none)) else (none))) else (none)))) else (none)))) = some r := H
              have A31 := Aside0.mk A310
              clear A310
              replace H := Option.bind_eq_some_iff.mp H
              obtain ⟨t211, A320, H⟩ := H
              replace H : ((name_Bucket.f k1 t211).bind fun bt212 => (if 65537 ≤ 17592186044416 then ((some (List.replicate 65537 (⟨#[]⟩ : ByteArray) : List ByteArray)).bind fun y214 => ((name_Sort.f y214).bind fun bt217 => (if 1 ≤ (y214.length : Int) then ((name_Sort.f (y214.drop 1)).bind fun bt225 => (if t200 = 0 then (if t203 = 6 then (if t207 = 6 then (if t206 = 0 then (if t210 = 0 then ((twoslotlaw21_row.f k1 24 255).bind fun t229 => (if t208.toList = t229.toList then (if bt212.2 = 0 then (if bt212.1 = 0 then (if bt217.2 = 20 then (some (bt225.2 == 6)) else (none)) else (none)) else (none)) else (none))) else (none)) else (none)) else (none)) else (none)) else (none))) else (none)))) else (none))) = some r := H
              have A32 := Aside0.mk A320
              clear A320
              replace H := Option.bind_eq_some_iff.mp H
              obtain ⟨⟨t212, t213⟩, A330, H⟩ := H
              replace H : (if 65537 ≤ 17592186044416 then ((some (List.replicate 65537 (⟨#[]⟩ : ByteArray) : List ByteArray)).bind fun y214 => ((name_Sort.f y214).bind fun bt217 => (if 1 ≤ (y214.length : Int) then ((name_Sort.f (y214.drop 1)).bind fun bt225 => (if t200 = 0 then (if t203 = 6 then (if t207 = 6 then (if t206 = 0 then (if t210 = 0 then ((twoslotlaw21_row.f k1 24 255).bind fun t229 => (if t208.toList = t229.toList then (if t213 = 0 then (if t212 = 0 then (if bt217.2 = 20 then (some (bt225.2 == 6)) else (none)) else (none)) else (none)) else (none))) else (none)) else (none)) else (none)) else (none)) else (none))) else (none)))) else (none)) = some r := H
              have A33 := Aside0.mk A330
              clear A330
              by_cases c34 : 65537 ≤ 17592186044416
              · rw [if_pos c34] at H
                have c34b0 := eq_true c34
                have c34b1 : decide (65537 ≤ 17592186044416) = true := decide_eq_true c34
                clear c34
                obtain ⟨y214, hy214⟩ : ∃ y_ : List ByteArray, y_ = (List.replicate 65537 (⟨#[]⟩ : ByteArray)) := ⟨_, rfl⟩
                replace H : ((name_Sort.f y214).bind fun bt217 => (if 1 ≤ (y214.length : Int) then ((name_Sort.f (y214.drop 1)).bind fun bt225 => (if t200 = 0 then (if t203 = 6 then (if t207 = 6 then (if t206 = 0 then (if t210 = 0 then ((twoslotlaw21_row.f k1 24 255).bind fun t229 => (if t208.toList = t229.toList then (if t213 = 0 then (if t212 = 0 then (if bt217.2 = 20 then (some (bt225.2 == 6)) else (none)) else (none)) else (none)) else (none))) else (none)) else (none)) else (none)) else (none)) else (none))) else (none))) = some r := by first | (rw [hy214]; with_reducible exact H) | (have H2_ := (Option.bind_some _ _).symm.trans H; rw [hy214]; with_reducible exact H2_) | (have H2_ := (Option.bind_some _ _).symm.trans H; with_reducible exact H2_) | with_reducible exact H | (rw [hy214]; exact H) | exact H
                have Ny214 := Aside0.mk hy214
                clear hy214
                replace H := Option.bind_eq_some_iff.mp H
                obtain ⟨⟨t217, t218⟩, A350, H⟩ := H
                replace H : (if 1 ≤ (y214.length : Int) then ((name_Sort.f (y214.drop 1)).bind fun bt225 => (if t200 = 0 then (if t203 = 6 then (if t207 = 6 then (if t206 = 0 then (if t210 = 0 then ((twoslotlaw21_row.f k1 24 255).bind fun t229 => (if t208.toList = t229.toList then (if t213 = 0 then (if t212 = 0 then (if t218 = 20 then (some (bt225.2 == 6)) else (none)) else (none)) else (none)) else (none))) else (none)) else (none)) else (none)) else (none)) else (none))) else (none)) = some r := H
                have A35 := Aside0.mk A350
                clear A350
                by_cases c36 : 1 ≤ (y214.length : Int)
                · rw [if_pos c36] at H
                  have c36b0 := eq_true c36
                  have c36b1 : decide (1 ≤ (y214.length : Int)) = true := decide_eq_true c36
                  clear c36
                  obtain ⟨y221, hy221⟩ : ∃ y_ : List ByteArray, y_ = (y214.drop 1) := ⟨_, rfl⟩
                  replace H : ((name_Sort.f y221).bind fun bt225 => (if t200 = 0 then (if t203 = 6 then (if t207 = 6 then (if t206 = 0 then (if t210 = 0 then ((twoslotlaw21_row.f k1 24 255).bind fun t229 => (if t208.toList = t229.toList then (if t213 = 0 then (if t212 = 0 then (if t218 = 20 then (some (bt225.2 == 6)) else (none)) else (none)) else (none)) else (none))) else (none)) else (none)) else (none)) else (none)) else (none))) = some r := by first | (rw [hy221]; with_reducible exact H) | (have H2_ := (Option.bind_some _ _).symm.trans H; rw [hy221]; with_reducible exact H2_) | (have H2_ := (Option.bind_some _ _).symm.trans H; with_reducible exact H2_) | with_reducible exact H | (rw [hy221]; exact H) | exact H
                  have Ny221 := Aside0.mk hy221
                  clear hy221
                  replace H := Option.bind_eq_some_iff.mp H
                  obtain ⟨⟨t225, t226⟩, A370, H⟩ := H
                  replace H : (if t200 = 0 then (if t203 = 6 then (if t207 = 6 then (if t206 = 0 then (if t210 = 0 then ((twoslotlaw21_row.f k1 24 255).bind fun t229 => (if t208.toList = t229.toList then (if t213 = 0 then (if t212 = 0 then (if t218 = 20 then (some (t226 == 6)) else (none)) else (none)) else (none)) else (none))) else (none)) else (none)) else (none)) else (none)) else (none)) = some r := H
                  have A37 := Aside0.mk A370
                  clear A370
                  by_cases c38 : t200 = 0
                  · rw [if_pos c38] at H
                    have c38b0 : (t200 == 0) = true := beq_iff_eq.mpr c38
                    have c38b1 : (t200 != 0) = false := bne_eq_false_iff_eq.mpr c38
                    clear c38
                    by_cases c39 : t203 = 6
                    · rw [if_pos c39] at H
                      have c39b0 : (t203 == 6) = true := beq_iff_eq.mpr c39
                      have c39b1 : (t203 != 6) = false := bne_eq_false_iff_eq.mpr c39
                      clear c39
                      by_cases c40 : t207 = 6
                      · rw [if_pos c40] at H
                        have c40b0 : (t207 == 6) = true := beq_iff_eq.mpr c40
                        have c40b1 : (t207 != 6) = false := bne_eq_false_iff_eq.mpr c40
                        clear c40
                        by_cases c41 : t206 = 0
                        · rw [if_pos c41] at H
                          have c41b0 : (t206 == 0) = true := beq_iff_eq.mpr c41
                          have c41b1 : (t206 != 0) = false := bne_eq_false_iff_eq.mpr c41
                          clear c41
                          by_cases c42 : t210 = 0
                          · rw [if_pos c42] at H
                            have c42b0 : (t210 == 0) = true := beq_iff_eq.mpr c42
                            have c42b1 : (t210 != 0) = false := bne_eq_false_iff_eq.mpr c42
                            clear c42
                            replace H := Option.bind_eq_some_iff.mp H
                            obtain ⟨t229, A430, H⟩ := H
                            replace H : (if t208.toList = t229.toList then (if t213 = 0 then (if t212 = 0 then (if t218 = 20 then (some (t226 == 6)) else (none)) else (none)) else (none)) else (none)) = some r := H
                            have A43 := Aside0.mk A430
                            clear A430
                            by_cases c44 : t208.toList = t229.toList
                            · rw [if_pos c44] at H
                              have c44b0 : (t208.toList == t229.toList) = true := beq_iff_eq.mpr c44
                              have c44b1 : (t208.toList != t229.toList) = false := bne_eq_false_iff_eq.mpr c44
                              clear c44
                              by_cases c45 : t213 = 0
                              · rw [if_pos c45] at H
                                have c45b0 : (t213 == 0) = true := beq_iff_eq.mpr c45
                                have c45b1 : (t213 != 0) = false := bne_eq_false_iff_eq.mpr c45
                                clear c45
                                by_cases c46 : t212 = 0
                                · rw [if_pos c46] at H
                                  have c46b0 : (t212 == 0) = true := beq_iff_eq.mpr c46
                                  have c46b1 : (t212 != 0) = false := bne_eq_false_iff_eq.mpr c46
                                  clear c46
                                  by_cases c47 : t218 = 20
                                  · rw [if_pos c47] at H
                                    have c47b0 : (t218 == 20) = true := beq_iff_eq.mpr c47
                                    have c47b1 : (t218 != 20) = false := bne_eq_false_iff_eq.mpr c47
                                    clear c47
                                    obtain rfl := Option.some.inj H
                                    go_wp2_with (first | ((with_reducible refine gate_callee (f := 14) rfl ?_); refine goesL_ (some 93) rfl rfl Tryd.func14 (by kernel_rfl) rfl #[.int .i64 24, .int .u8 255] rfl (by (try simp only [List.map_toArray, List.map_cons, List.map_nil]); first | done | rfl | (simp only [List.length_drop, List.length_take]; rfl)) ?_; (with_reducible refine (twoslotlaw21_row.calls k1 24 255 t198 _ A23.out).mono ?_); rintro e w48 ⟨rfl, hb⟩; refine ⟨_, rfl, ?_⟩; have n0_ := Aside0.mk (below_step (by repeat (first | (with_reducible first | exact HB.out | apply below_alloc | apply pw_below_drewN | apply below_drew1) | exact HB.out)) hb); clear HB; have HB := n0_; clear n0_; (try clear hb); (try clear hb2); (try clear hk); (try clear hi)) | ((with_reducible refine gate_callee (f := 10) rfl ?_); refine goesL_ (some 94) rfl rfl Tryd.func10 (by kernel_rfl) rfl #[.string t198] rfl (by (try simp only [List.map_toArray, List.map_cons, List.map_nil]); first | done | rfl | (simp only [List.length_drop, List.length_take]; rfl)) ?_; (with_reducible refine (name_Quote.calls t198 t199 t200 _ A24.out).mono ?_); rintro e w49 ⟨rfl, hb⟩; refine ⟨_, rfl, ?_⟩; have n0_ := Aside0.mk (below_step (by repeat (first | (with_reducible first | exact HB.out | apply below_alloc | apply pw_below_drewN | apply below_drew1) | exact HB.out)) hb); clear HB; have HB := n0_; clear n0_; (try clear hb); (try clear hb2); (try clear hk); (try clear hi)) | ((with_reducible refine gate_callee (f := 14) rfl ?_); refine goesL_ (some 98) rfl rfl Tryd.func14 (by kernel_rfl) rfl #[.int .i64 25, .int .u8 97] rfl (by (try simp only [List.map_toArray, List.map_cons, List.map_nil]); first | done | rfl | (simp only [List.length_drop, List.length_take]; rfl)) ?_; (with_reducible refine (twoslotlaw21_row.calls k1 25 97 t201 _ A25.out).mono ?_); rintro e w50 ⟨rfl, hb⟩; refine ⟨_, rfl, ?_⟩; have n0_ := Aside0.mk (below_step (by repeat (first | (with_reducible first | exact HB.out | apply below_alloc | apply pw_below_drewN | apply below_drew1) | exact HB.out)) hb); clear HB; have HB := n0_; clear n0_; (try clear hb); (try clear hb2); (try clear hk); (try clear hi)) | ((with_reducible refine gate_callee (f := 10) rfl ?_); refine goesL_ (some 99) rfl rfl Tryd.func10 (by kernel_rfl) rfl #[.string t201] rfl (by (try simp only [List.map_toArray, List.map_cons, List.map_nil]); first | done | rfl | (simp only [List.length_drop, List.length_take]; rfl)) ?_; (with_reducible refine (name_Quote.calls t201 t202 t203 _ A26.out).mono ?_); rintro e w51 ⟨rfl, hb⟩; refine ⟨_, rfl, ?_⟩; have n0_ := Aside0.mk (below_step (by repeat (first | (with_reducible first | exact HB.out | apply below_alloc | apply pw_below_drewN | apply below_drew1) | exact HB.out)) hb); clear HB; have HB := n0_; clear n0_; (try clear hb); (try clear hb2); (try clear hk); (try clear hi)) | ((with_reducible refine gate_callee (f := 14) rfl ?_); refine goesL_ (some 103) rfl rfl Tryd.func14 (by kernel_rfl) rfl #[.int .i64 25, .int .u8 97] rfl (by (try simp only [List.map_toArray, List.map_cons, List.map_nil]); first | done | rfl | (simp only [List.length_drop, List.length_take]; rfl)) ?_; (with_reducible refine (twoslotlaw21_row.calls k1 25 97 t204 _ A27.out).mono ?_); rintro e w52 ⟨rfl, hb⟩; refine ⟨_, rfl, ?_⟩; have n0_ := Aside0.mk (below_step (by repeat (first | (with_reducible first | exact HB.out | apply below_alloc | apply pw_below_drewN | apply below_drew1) | exact HB.out)) hb); clear HB; have HB := n0_; clear n0_; (try clear hb); (try clear hb2); (try clear hk); (try clear hi)) | ((with_reducible refine gate_callee (f := 11) rfl ?_); refine goesL_ (some 106) rfl rfl Tryd.func11 (by kernel_rfl) rfl #[.string (((⟨#[34]⟩ : ByteArray) ++ t204) ++ (⟨#[34]⟩ : ByteArray))] rfl (by (try simp only [List.map_toArray, List.map_cons, List.map_nil]); first | done | rfl | (simp only [List.length_drop, List.length_take]; rfl)) ?_; (with_reducible refine (name_Plain.calls (((⟨#[34]⟩ : ByteArray) ++ t204) ++ (⟨#[34]⟩ : ByteArray)) t205 t206 t207 _ (HV.out.below (by repeat (first | (with_reducible first | exact HB.out | apply below_alloc | apply pw_below_drewN | apply below_drew1) | exact HB.out | exact Below.refl _ _))) A30.out).mono ?_); rintro e w53 ⟨rfl, hb⟩; refine ⟨_, rfl, ?_⟩; have n0_ := Aside0.mk (below_step (by repeat (first | (with_reducible first | exact HB.out | apply below_alloc | apply pw_below_drewN | apply below_drew1) | exact HB.out)) hb); clear HB; have HB := n0_; clear n0_; (try clear hb); (try clear hb2); (try clear hk); (try clear hi)) | ((with_reducible refine gate_callee (f := 11) rfl ?_); refine goesL_ (some 112) rfl rfl Tryd.func11 (by kernel_rfl) rfl #[.string t199] rfl (by (try simp only [List.map_toArray, List.map_cons, List.map_nil]); first | done | rfl | (simp only [List.length_drop, List.length_take]; rfl)) ?_; (with_reducible refine (name_Plain.calls t199 t208 t209 t210 _ (HV.out.below (by repeat (first | (with_reducible first | exact HB.out | apply below_alloc | apply pw_below_drewN | apply below_drew1) | exact HB.out | exact Below.refl _ _))) A31.out).mono ?_); rintro e w54 ⟨rfl, hb⟩; refine ⟨_, rfl, ?_⟩; have n0_ := Aside0.mk (below_step (by repeat (first | (with_reducible first | exact HB.out | apply below_alloc | apply pw_below_drewN | apply below_drew1) | exact HB.out)) hb); clear HB; have HB := n0_; clear n0_; (try clear hb); (try clear hb2); (try clear hk); (try clear hi)) | ((with_reducible refine gate_callee (f := 14) rfl ?_); refine goesL_ (some 117) rfl rfl Tryd.func14 (by kernel_rfl) rfl #[.int .i64 24, .int .u8 255] rfl (by (try simp only [List.map_toArray, List.map_cons, List.map_nil]); first | done | rfl | (simp only [List.length_drop, List.length_take]; rfl)) ?_; (with_reducible refine (twoslotlaw21_row.calls k1 24 255 t211 _ A32.out).mono ?_); rintro e w55 ⟨rfl, hb⟩; refine ⟨_, rfl, ?_⟩; have n0_ := Aside0.mk (below_step (by repeat (first | (with_reducible first | exact HB.out | apply below_alloc | apply pw_below_drewN | apply below_drew1) | exact HB.out)) hb); clear HB; have HB := n0_; clear n0_; (try clear hb); (try clear hb2); (try clear hk); (try clear hi)) | ((with_reducible refine gate_callee (f := 12) rfl ?_); refine goesL_ (some 118) rfl rfl Tryd.func12 (by kernel_rfl) rfl #[.string t211] rfl (by (try simp only [List.map_toArray, List.map_cons, List.map_nil]); first | done | rfl | (simp only [List.length_drop, List.length_take]; rfl)) ?_; (with_reducible refine (name_Bucket.calls k1 t211 t212 t213 _ A33.out).mono ?_); rintro e w56 ⟨rfl, hb⟩; refine ⟨_, rfl, ?_⟩; have n0_ := Aside0.mk (below_step (by repeat (first | (with_reducible first | exact HB.out | apply below_alloc | apply pw_below_drewN | apply below_drew1) | exact HB.out)) hb); clear HB; have HB := n0_; clear n0_; (try clear hb); (try clear hb2); (try clear hk); (try clear hi)) | ((with_reducible refine gate_dst (N := 121) rfl ?_); refine Kd.R_make Kd.string _ 9 rfl (N := 121) rfl 32 _ _ rfl 65537 rfl rfl Tryd.underlying32 (.string ⟨#[]⟩) 16 info9 rfl (by decide) (by omega) (⟨#[]⟩ : ByteArray) (ok := fun _ => True) (okp := fun _ => True) rfl (fun _ hk => hk) trivial (by omega) (by omega) (Below.refl _ _) (Nat.le_refl _) ?_; intro v215 w57 ho58 hb hg_ hnew_; clear hg_ hnew_; (first | rw [← Ny214.out] at ho58 | (simp only [Int.reduceToNat] at ho58; rw [← Ny214.out] at ho58)); have n0_ := Aside0.mk (Kd.R_lower ho58 (below_size (by repeat (first | (with_reducible first | exact HB.out | apply below_alloc | apply pw_below_drewN | apply below_drew1) | exact HB.out)))); have n1_ := Aside0.mk (below_step (by repeat (first | (with_reducible first | exact HB.out | apply below_alloc | apply pw_below_drewN | apply below_drew1) | exact HB.out)) hb); clear HB; have HO216 := n0_; have HB := n1_; clear n0_ n1_; clear hb ho58; obtain ⟨Ao59, co59, eo59⟩ := Kd.R_slice HO216.out; subst eo59) | ((with_reducible refine gate_callee (f := 15) rfl ?_); refine goesL_ (some 124) rfl rfl Tryd.func15 (by kernel_rfl) rfl #[.slice Ao59 y214.length co59] rfl (by (try simp only [List.map_toArray, List.map_cons, List.map_nil]); first | done | rfl | (simp only [List.length_drop, List.length_take]; rfl)) ?_; (with_reducible refine (name_Sort.calls _ _ y214 t217 t218 _ ?side1 ?side2 A35.out).mono ?_); (case side1 => repeat (first | exact (Kd.R_reads' HO216.out).2.2 | (with_reducible refine Kd.C_alloc ?_ _) | (with_reducible refine Kd.C_drewN ?_ _) | (with_reducible refine Kd.C_drew ?_))); (case side2 => exact (Kd.R_reads' HO216.out).2.1); rintro e w60 ⟨v219, rfl, ho0, hb⟩; refine ⟨_, rfl, ?_⟩; have n0_ := Aside0.mk (Kd.R_elder' (by (with_reducible repeat (first | apply Kd.R_alloc | apply Kd.R_drewN | apply Kd.R_drew)); exact HO216.out) (Kd.R_base ho0) hb); have n1_ := Aside0.mk (Kd.R_lower (Kd.R_new' ho0 (Kd.R_lt (by (with_reducible repeat (first | apply Kd.R_alloc | apply Kd.R_drewN | apply Kd.R_drew)); exact HO216.out))) (below_size (by repeat (first | (with_reducible first | exact HB.out | apply below_alloc | apply pw_below_drewN | apply below_drew1) | exact HB.out)))); have n2_ := Aside0.mk (below_step (by repeat (first | (with_reducible first | exact HB.out | apply below_alloc | apply pw_below_drewN | apply below_drew1) | exact HB.out)) hb); clear HO216; clear HB; have HO216 := n0_; have HO220 := n1_; have HB := n2_; clear n0_ n1_ n2_; (try clear hb); (try clear hb2); (try clear hk); (try clear hi); (try clear ho0); have q61 : (1 : Int) ≤ ((y214.length : Int) : Int) := of_decide_eq_true (by first | (with_reducible assumption) | assumption); obtain ⟨i061, hi061, _, hsz61, _⟩ := info_parts info9; have hroom61 : y214.length ≤ co59 := (Kd.R_reads' HO216.out).2.1; have hC61 : Kd.C Kd.string _ Ao59 y214.length y214 := (Kd.R_reads' HO216.out).2.2; have hcut61 := cut_from (P := Tryd.prog) 32 9 .i64 Tryd.underlying32 hi061 1 hsz61 Ao59 y214.length co59 1 (by omega) q61; have hr61 := Kd.C_drop (m := (1 : Int).toNat) (c := co59) hC61 (by omega) hroom61; obtain ⟨A61, hA61⟩ : ∃ A1, A1 = (if co59 = (1 : Int).toNat then Ao59 else (Ao59 : Option Addr).map (·.add ((1 : Int).toNat * 1))) := ⟨_, rfl⟩; obtain ⟨c61, hc61⟩ : ∃ c1, c1 = co59 - (1 : Int).toNat := ⟨_, rfl⟩; have hy61 : y221.length = y214.length - (1 : Int).toNat := (by rw [Ny221.out, List.length_drop] <;> omega); rw [show (y214).drop (1 : Int).toNat = y221 from Ny221.out.symm] at hr61; replace hr61 : Kd.C Kd.string _ A61 y221.length y221 := (by rw [hA61]; exact hr61); rw [← hy61, ← hA61, ← hc61] at hcut61; have HR224 := Aside0.mk hr61; have HC224 := Aside0.mk (show y221.length ≤ c61 from by rw [hy61, hc61]; exact Nat.sub_le_sub_right hroom61 _); clear hr61 hC61 hroom61 hi061 hsz61 hc61; have KY61 := Aside0.mk hy61; have KA61 := Aside0.mk hA61; clear hy61 hA61; have KL61 := Aside0.mk (show 1 ≤ y214.length from by omega); replace q61 := eq_true q61) | ((with_reducible refine gate_callee (f := 15) rfl ?_); refine goesL_ (some 130) rfl rfl Tryd.func15 (by kernel_rfl) rfl #[.slice A61 y221.length c61] rfl (by (try simp only [List.map_toArray, List.map_cons, List.map_nil]); first | done | rfl | (simp only [List.length_drop, List.length_take]; rfl)) ?_; (with_reducible refine (name_Sort.calls _ _ y221 t225 t226 _ ?side1 ?side2 A37.out).mono ?_); (case side1 => repeat (first | exact (by repeat (first | (with_reducible exact HR224.out) | (with_reducible refine Kd.C_alloc ?_ _) | (with_reducible refine Kd.C_drewN ?_ _) | (with_reducible refine Kd.C_drew ?_) | exact HR224.out)) | (with_reducible refine Kd.C_alloc ?_ _) | (with_reducible refine Kd.C_drewN ?_ _) | (with_reducible refine Kd.C_drew ?_))); (case side2 => exact HC224.out); rintro e w62 ⟨v227, rfl, ho0, hb⟩; refine ⟨_, rfl, ?_⟩; have n0_ := Aside0.mk (Kd.R_elder' (by (with_reducible repeat (first | apply Kd.R_alloc | apply Kd.R_drewN | apply Kd.R_drew)); exact HO216.out) (Kd.R_base ho0) hb); have n1_ := Aside0.mk (Kd.R_elder' (by (with_reducible repeat (first | apply Kd.R_alloc | apply Kd.R_drewN | apply Kd.R_drew)); exact HO220.out) (Kd.R_base ho0) hb); have n2_ := Aside0.mk (Kd.R_lower (Kd.R_new' (Kd.R_new' ho0 (Kd.R_lt (by (with_reducible repeat (first | apply Kd.R_alloc | apply Kd.R_drewN | apply Kd.R_drew)); exact HO216.out))) (Kd.R_lt (by (with_reducible repeat (first | apply Kd.R_alloc | apply Kd.R_drewN | apply Kd.R_drew)); exact HO220.out))) (below_size (by repeat (first | (with_reducible first | exact HB.out | apply below_alloc | apply pw_below_drewN | apply below_drew1) | exact HB.out)))); have n3_ := Aside0.mk (Kd.C_below (by repeat (first | (with_reducible exact HR224.out) | (with_reducible refine Kd.C_alloc ?_ _) | (with_reducible refine Kd.C_drewN ?_ _) | (with_reducible refine Kd.C_drew ?_) | exact HR224.out)) hb); have n4_ := Aside0.mk (below_step (by repeat (first | (with_reducible first | exact HB.out | apply below_alloc | apply pw_below_drewN | apply below_drew1) | exact HB.out)) hb); clear HO216; clear HO220; clear HR224; clear HB; have HO216 := n0_; have HO220 := n1_; have HO228 := n2_; have HR224 := n3_; have HB := n4_; clear n0_ n1_ n2_ n3_ n4_; (try clear hb); (try clear hb2); (try clear hk); (try clear hi); (try clear ho0)) | (go_at_call 14; (with_reducible refine (twoslotlaw21_row.calls k1 24 255 t229 _ A43.out).mono ?_); rintro e w63 ⟨rfl, hb⟩; clear A43; have n0_ := Aside0.mk (Kd.R_below (by (with_reducible repeat (first | apply Kd.R_alloc | apply Kd.R_drewN | apply Kd.R_drew)); exact HO216.out) hb); have n1_ := Aside0.mk (Kd.R_below (by (with_reducible repeat (first | apply Kd.R_alloc | apply Kd.R_drewN | apply Kd.R_drew)); exact HO220.out) hb); have n2_ := Aside0.mk (Kd.R_below (by (with_reducible repeat (first | apply Kd.R_alloc | apply Kd.R_drewN | apply Kd.R_drew)); exact HO228.out) hb); have n3_ := Aside0.mk (Kd.C_below (by repeat (first | (with_reducible exact HR224.out) | (with_reducible refine Kd.C_alloc ?_ _) | (with_reducible refine Kd.C_drewN ?_ _) | (with_reducible refine Kd.C_drew ?_) | exact HR224.out)) hb); have n4_ := Aside0.mk (below_step (by repeat (first | (with_reducible first | exact HB.out | apply below_alloc | apply pw_below_drewN | apply below_drew1) | exact HB.out)) hb); clear HO216; clear HO220; clear HO228; clear HR224; clear HB; have HO216 := n0_; have HO220 := n1_; have HO228 := n2_; have HR224 := n3_; have HB := n4_; clear n0_ n1_ n2_ n3_ n4_; (try clear hb); (try clear hb2); (try clear hk); (try clear hi)))
                                    go_ret
                                    exact ⟨by first | rfl | (simp [errW_none, errW_some] <;> rfl) | (simp [*, errW_none, errW_some] <;> rfl), by repeat (first | (with_reducible first | exact HB.out | apply below_alloc | apply pw_below_drewN | apply below_drew1) | exact HB.out)⟩
                                  · rw [if_neg c47] at H
                                    exact absurd H (by simp)
                                · rw [if_neg c46] at H
                                  exact absurd H (by simp)
                              · rw [if_neg c45] at H
                                exact absurd H (by simp)
                            · rw [if_neg c44] at H
                              exact absurd H (by simp)
                          · rw [if_neg c42] at H
                            exact absurd H (by simp)
                        · rw [if_neg c41] at H
                          exact absurd H (by simp)
                      · rw [if_neg c40] at H
                        exact absurd H (by simp)
                    · rw [if_neg c39] at H
                      exact absurd H (by simp)
                  · rw [if_neg c38] at H
                    exact absurd H (by simp)
                · rw [if_neg c36] at H
                  exact absurd H (by simp)
              · rw [if_neg c34] at H
                exact absurd H (by simp)
            · rw [if_neg c29] at H
              exact absurd H (by simp)
          · rw [if_neg c28] at H
            exact absurd H (by simp)
  · replace c2 := Bool.eq_false_iff.mpr c2
    subst c2
    have H1 : (none) = some r := by rw [if_neg (show ¬ (false = true) by decide)] at H; exact H
    clear H
    have H := H1
    clear H1
    exact absurd H (by simp)

/-- THE ONE PURE STATEMENT of twoslotlaw21_NameNames: yours. -/
def twoslotlaw21_NameNames.Pure : Prop := ∃ k, twoslotlaw21_NameNames.f k  = some true
theorem twoslotlaw21_NameNames.walk (P : twoslotlaw21_NameNames.Pure)  (w : World) (hV : VarsOk w)  :
    Calls Tryd.prog 3 #[] w fun e w' => e = .returned (.bool true) ∧ Below w.heap.size w w' := by
  obtain ⟨k, h⟩ := P  
  refine (twoslotlaw21_NameNames.calls k  true w hV h).mono ?_
  rintro e w' ⟨rfl, hd⟩
  exact ⟨rfl, hd⟩

end Go.Proofs.YtmhfgcmgeglmhaaDoor.P

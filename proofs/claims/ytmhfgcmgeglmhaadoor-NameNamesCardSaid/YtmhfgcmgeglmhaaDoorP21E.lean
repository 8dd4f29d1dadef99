import Derived.Test.YtmhfgcmgeglmhaaDoorP21D
namespace Go.Proofs.YtmhfgcmgeglmhaaDoor.P
open Go.RowKit Go.Proofs.YtmhfgcmgeglmhaaDoorW.PrintWords Go.Proofs.YtmhfgcmgeglmhaaDoorW.PrintLast Go.Proofs.YtmhfgcmgeglmhaaDoorW.PrintMore
attribute [local go_sem] max2_int min2_int max_two min_two max_three min_three max_four min_four
set_option linter.unusedVariables false
set_option linter.unusedSimpArgs false
/-- strconv.ErrSyntax holds an error, or none. -/
def VarsOk (w : World) : Prop := ∃ ev, w.cell? ⟨0, 0, none⟩ = some ev ∧ (ev = .nilIface ∨ ∃ te pe, ev = .iface te pe)
theorem VarsOk.below {w w' : World} (h : VarsOk w) (hb : Below w.heap.size w w') : VarsOk w' := by
  obtain ⟨ev, hc, he⟩ := h
  exact ⟨ev, pw_cell_below hb hc, he⟩
set_option maxHeartbeats 2000000 in
theorem ParseUintPub_ok (s : ByteArray) (v : Int) (w : World) (hs : s.size = 2) (hp : pu (bt s 0) (bt s 1) = .tuple #[.int .u64 v, .nilIface]) : Calls Tryd.prog 40 #[.string s, .int .i64 16, .int .i64 8] w fun e w' => e = .returned (.tuple #[.int .u64 v, .nilIface]) ∧ Below w.heap.size w w' := by
  have HS := Aside0.mk hs
  have HP := Aside0.mk hp
  clear hs hp
  go_enter Tryd.func40, Tryd.ntmps40
  go_wp2_with (go_at_call 48; (with_reducible refine (ParseUint2 s _ HS.out).mono ?_); rw [HP.out]; rintro e w1 ⟨rfl, hb⟩; have HB := Aside0.mk hb; clear hb)
  go_ret2
  exact ⟨rfl, HB.out⟩
set_option maxHeartbeats 2000000 in
theorem ParseUintPub_bad (s : ByteArray) (w : World) (hs : s.size = 2) (hV : VarsOk w) (hp : pu (bt s 0) (bt s 1) = .tuple #[.int .u64 0, .iface 79 (.int .i64 2)]) : Calls Tryd.prog 40 #[.string s, .int .i64 16, .int .i64 8] w fun e w' => (∃ a : Addr, e = .returned (.tuple #[.int .u64 0, .iface 80 (.pointer (some a))])) ∧ Below w.heap.size w w' := by
  have HS := Aside0.mk hs
  have HP := Aside0.mk hp
  have HV := Aside0.mk hV
  clear hs hp hV
  go_enter Tryd.func40, Tryd.ntmps40
  go_wp2_with (first | (go_at_call 48; (with_reducible refine (ParseUint2 s _ HS.out).mono ?_); rw [HP.out]; rintro e w1 ⟨rfl, hb⟩; have HB := Aside0.mk hb; have HV1 := Aside0.mk (HV.out.below hb); obtain ⟨ev, hcv, hev⟩ := HV1.out; have HE := Aside0.mk hev; have HCV := Aside0.mk hcv; clear hb hcv hev) | (go_at_call 49; refine (Tryd.strconv_toError_syntax _ s _ _ ev _ (by have := HS.out; omega) HCV.out HE.out).mono ?_; rintro e w2 ⟨M, rfl, _, _, hb2⟩; have n_ := Aside0.mk (below_step HB.out hb2); clear HB hb2; have HB := n_; clear n_))
  go_ret2
  exact ⟨⟨_, rfl⟩, HB.out⟩
/-- What thing tells, program-wise. -/
def chk (s : ByteArray) (c : Int) (long : Nat) : Int × Int := if bt s 0 = 34 then (0, 0) else if (strOfNums (shownL c)).toList == (s.extract 0 long).toList then (c, (long : Int)) else (0, 0)
def pX (s : ByteArray) : Bool := Lib.hasPrefix s.data.toList [92, 120]
def longOf (s : ByteArray) : Nat := if pX s = true ∧ 4 ≤ s.size then 4 else if bt s 0 = 92 ∧ 2 ≤ s.size then 2 else 1
def thingF (s : ByteArray) : Int × Int := if longOf s = 4 then (if hexv (bt s 2) < 16 ∧ hexv (bt s 3) < 16 then chk s (hexv (bt s 2) * 16 + hexv (bt s 3)) 4 else (0, 0)) else chk s (bt s ((longOf s : Int) - 1)) (longOf s)
theorem pX_yes (s : ByteArray) (h : pX s = true) : bt s 0 = 92 ∧ bt s 1 = 120 ∧ 2 ≤ s.size := by
  unfold pX Lib.hasPrefix at h
  have hl := data_length s
  rcases hd : s.data.toList with _ | ⟨a, _ | ⟨b, l⟩⟩
  · rw [hd] at h; simp at h
  · rw [hd] at h; simp at h
  · rw [hd] at h hl
    simp at h hl
    have e0 := rd_bytesOf s 0
    have e1 := rd_bytesOf s 1
    simp [rd, bytesOf, hd] at e0 e1
    refine ⟨by rw [← e0, ← h.1]; rfl, by rw [← e1, ← h.2]; rfl, by omega⟩
set_option maxHeartbeats 8000000 in
set_option maxRecDepth 100000 in
theorem thing1 (s : ByteArray) (w : World) (hs : 0 < s.size) (hp : pX s = false) (h2 : ¬ (bt s 0 = 92 ∧ 2 ≤ s.size)) : Calls Tryd.prog 29 #[.string s] w fun e w' => e = .returned (.tuple #[.int .u8 (chk s (bt s 0) 1).1, .int .i64 (chk s (bt s 0) 1).2]) ∧ Below w.heap.size w w' := by
  have HB := Aside0.mk (Below.refl w.heap.size w)
  have hx0 : ∀ h : 0 < s.size, ((s[0]'h).toNat : Int) = bt s 0 := bt_at s 0
  have HRG := Aside0.mk (bt_range s 0)
  have hi : (1 : Int) ≤ (s.size : Int) := by omega
  have hpp : Lib.hasPrefix s.data.toList [92, 120] = false := hp
  clear hp
  go_enter Tryd.func29, Tryd.ntmps29
  by_cases hq0 : bt s 0 = 34
  · have h5 : (bt s 0 == 92) = false := by simp; omega
    clear h2
    have HQ0 := Aside0.mk hq0
    have e0 : (bt s 0 == 34) = true := by simpa using hq0
    clear hq0
    go_wp2_with (first | (go_at_call 28; refine (Tryd.strings_HasPrefix s _ _).mono ?_; rintro e wh ⟨rfl, hw⟩; have hw2 := hw.symm; subst hw2))
    
    have hs : Below w.heap.size w (World.drew w) := below_drew1 (Below.refl _ _)
    have SZ1 := Aside0.mk (show w.heap.size ≤ (World.drew w).heap.size from hs.size)
    
    have n_ := Aside0.mk (below_step HB.out hs)
    clear HB
    have HB := n_
    clear n_ hs
    refine start_ (n := 11) (S := fun w' => True) (ds := []) #[false, false, false, false, false, false, false, false, false, false, false] (by kernel_rfl) rfl rfl trivial (fun hHeld => ?_)
    generalize World.drew w = w1 at HB  SZ1 hHeld ⊢
    refine pure_ (i := 0) (N := some 41) (v := ?_) (a' := ?_) #[true, false, false, false, false, false, false, false, false, false, false] rfl rfl (by kernel_rfl) (fun _ _ _ h => h) (Or.inl ⟨by rfl, ?_⟩) ?_ ?_
    rotate_left
    · intro w'
      go_simp
      with_reducible rfl
    rotate_left
    · simp only [Act.put, List.setIfInBounds_toArray, List.set_cons_zero, List.set_cons_succ, i64_w, i32_w]
      rfl
    refine take_ (i := 1) (N := some 42) (v := ?_) (a' := ?_) #[true, true, false, false, false, false, false, false, false, false, false] rfl rfl (by kernel_rfl) (fun _ _ _ h => h) (Or.inl ⟨by rfl, ?_⟩) hHeld ?_ ?_
    rotate_left
    · intro w' _
      go_simp
      with_reducible rfl
    rotate_left
    · simp only [Act.put, List.setIfInBounds_toArray, List.set_cons_zero, List.set_cons_succ, i64_w, i32_w]
      rfl
    refine pure_ (i := 2) (N := some 43) (v := ?_) (a' := ?_) #[true, true, true, false, false, false, false, false, false, false, false] rfl rfl (by kernel_rfl) (fun _ _ _ h => h) (Or.inl ⟨by rfl, ?_⟩) ?_ ?_
    rotate_left
    · intro w'
      go_simp
      with_reducible rfl
    rotate_left
    · simp only [Act.put, List.setIfInBounds_toArray, List.set_cons_zero, List.set_cons_succ, i64_w, i32_w]
      rfl
    refine pure_ (i := 3) (N := some 44) (v := ?_) (a' := ?_) #[true, true, true, true, false, false, false, false, false, false, false] rfl rfl (by kernel_rfl) (fun _ _ _ h => h) (Or.inl ⟨by rfl, ?_⟩) ?_ ?_
    rotate_left
    · intro w'
      go_simp
      with_reducible rfl
    rotate_left
    · simp only [Act.put, List.setIfInBounds_toArray, List.set_cons_zero, List.set_cons_succ, i64_w, i32_w]
      rfl
    refine pure_ (i := 4) (N := some 45) (v := undef) (a' := ?_) #[true, true, true, true, true, false, false, false, false, false, false] rfl rfl (by kernel_rfl) (fun _ _ _ h => h) (Or.inr ⟨by rfl, rfl⟩) ?_ ?_
    rotate_left
    · simp only [Act.put, List.setIfInBounds_toArray, List.set_cons_zero, List.set_cons_succ, i64_w, i32_w]
      rfl
    refine pure_ (i := 5) (N := some 46) (v := undef) (a' := ?_) #[true, true, true, true, true, true, false, false, false, false, false] rfl rfl (by kernel_rfl) (fun _ _ _ h => h) (Or.inr ⟨by rfl, rfl⟩) ?_ ?_
    rotate_left
    · simp only [Act.put, List.setIfInBounds_toArray, List.set_cons_zero, List.set_cons_succ, i64_w, i32_w]
      rfl
    refine pure_ (i := 6) (N := some 47) (v := undef) (a' := ?_) #[true, true, true, true, true, true, true, false, false, false, false] rfl rfl (by kernel_rfl) (fun _ _ _ h => h) (Or.inr ⟨by rfl, rfl⟩) ?_ ?_
    rotate_left
    · simp only [Act.put, List.setIfInBounds_toArray, List.set_cons_zero, List.set_cons_succ, i64_w, i32_w]
      rfl
    refine pure_ (i := 7) (N := some 48) (v := undef) (a' := ?_) #[true, true, true, true, true, true, true, true, false, false, false] rfl rfl (by kernel_rfl) (fun _ _ _ h => h) (Or.inr ⟨by rfl, rfl⟩) ?_ ?_
    rotate_left
    · simp only [Act.put, List.setIfInBounds_toArray, List.set_cons_zero, List.set_cons_succ, i64_w, i32_w]
      rfl
    refine pure_ (i := 8) (N := some 49) (v := undef) (a' := ?_) #[true, true, true, true, true, true, true, true, true, false, false] rfl rfl (by kernel_rfl) (fun _ _ _ h => h) (Or.inr ⟨by rfl, rfl⟩) ?_ ?_
    rotate_left
    · simp only [Act.put, List.setIfInBounds_toArray, List.set_cons_zero, List.set_cons_succ, i64_w, i32_w]
      rfl
    refine pure_ (i := 9) (N := some 50) (v := undef) (a' := ?_) #[true, true, true, true, true, true, true, true, true, true, false] rfl rfl (by kernel_rfl) (fun _ _ _ h => h) (Or.inr ⟨by rfl, rfl⟩) ?_ ?_
    rotate_left
    · simp only [Act.put, List.setIfInBounds_toArray, List.set_cons_zero, List.set_cons_succ, i64_w, i32_w]
      rfl
    refine pure_ (i := 10) (N := some 51) (v := ?_) (a' := ?_) #[true, true, true, true, true, true, true, true, true, true, true] rfl rfl (by kernel_rfl) (fun _ _ _ h => h) (Or.inl ⟨by rfl, ?_⟩) ?_ ?_
    rotate_left
    · intro w'
      go_simp
      with_reducible rfl
    rotate_left
    · simp only [Act.put, List.setIfInBounds_toArray, List.set_cons_zero, List.set_cons_succ, i64_w, i32_w]
      rfl
    refine done_ (by kernel_rfl) ?_
    
    go_wp2_with (fail)
    go_ret2
    exact ⟨by unfold chk; rw [if_pos HQ0.out]; rfl, (by repeat (first | exact HB.out | apply below_alloc | apply pw_below_drewN | apply below_drew1))⟩
  · by_cases h5 : bt s 0 = 92
    · have h6 : decide ((s.size : Int) ≥ 2) = false := decide_eq_false (fun h3 => h2 ⟨h5, by omega⟩)
      have h7 : (bt s 0 == 92) = true := by simpa using h5
      clear h2 h5
      have HQ0 := Aside0.mk hq0
      have e0 : (bt s 0 == 34) = false := by simpa using hq0
      clear hq0
      obtain ⟨q, hq⟩ : ∃ q : Bool, ((strOfNums (shownL (bt s 0))).toList == (s.extract 0 1).toList) = q := ⟨_, rfl⟩
      have HQ := Aside0.mk hq
      go_wp2_with (first | (go_at_call 28; refine (Tryd.strings_HasPrefix s _ _).mono ?_; rintro e wh ⟨rfl, hw⟩; have hw2 := hw.symm; subst hw2))
      
      have hs : Below w.heap.size w (World.drew w) := below_drew1 (Below.refl _ _)
      have SZ2 := Aside0.mk (show w.heap.size ≤ (World.drew w).heap.size from hs.size)
      
      have n_ := Aside0.mk (below_step HB.out hs)
      clear HB
      have HB := n_
      clear n_ hs
      refine start_ (n := 11) (S := fun w' => True) (ds := []) #[false, false, false, false, false, false, false, false, false, false, false] (by kernel_rfl) rfl rfl trivial (fun hHeld => ?_)
      generalize World.drew w = w2 at HB  SZ2 hHeld ⊢
      refine pure_ (i := 0) (N := some 41) (v := ?_) (a' := ?_) #[true, false, false, false, false, false, false, false, false, false, false] rfl rfl (by kernel_rfl) (fun _ _ _ h => h) (Or.inl ⟨by rfl, ?_⟩) ?_ ?_
      rotate_left
      · intro w'
        go_simp
        with_reducible rfl
      rotate_left
      · simp only [Act.put, List.setIfInBounds_toArray, List.set_cons_zero, List.set_cons_succ, i64_w, i32_w]
        rfl
      refine take_ (i := 1) (N := some 42) (v := ?_) (a' := ?_) #[true, true, false, false, false, false, false, false, false, false, false] rfl rfl (by kernel_rfl) (fun _ _ _ h => h) (Or.inl ⟨by rfl, ?_⟩) hHeld ?_ ?_
      rotate_left
      · intro w' _
        go_simp
        with_reducible rfl
      rotate_left
      · simp only [Act.put, List.setIfInBounds_toArray, List.set_cons_zero, List.set_cons_succ, i64_w, i32_w]
        rfl
      refine pure_ (i := 2) (N := some 43) (v := ?_) (a' := ?_) #[true, true, true, false, false, false, false, false, false, false, false] rfl rfl (by kernel_rfl) (fun _ _ _ h => h) (Or.inl ⟨by rfl, ?_⟩) ?_ ?_
      rotate_left
      · intro w'
        go_simp
        with_reducible rfl
      rotate_left
      · simp only [Act.put, List.setIfInBounds_toArray, List.set_cons_zero, List.set_cons_succ, i64_w, i32_w]
        rfl
      refine pure_ (i := 3) (N := some 44) (v := ?_) (a' := ?_) #[true, true, true, true, false, false, false, false, false, false, false] rfl rfl (by kernel_rfl) (fun _ _ _ h => h) (Or.inl ⟨by rfl, ?_⟩) ?_ ?_
      rotate_left
      · intro w'
        go_simp
        with_reducible rfl
      rotate_left
      · simp only [Act.put, List.setIfInBounds_toArray, List.set_cons_zero, List.set_cons_succ, i64_w, i32_w]
        rfl
      refine pure_ (i := 4) (N := some 45) (v := ?_) (a' := ?_) #[true, true, true, true, true, false, false, false, false, false, false] rfl rfl (by kernel_rfl) (fun _ _ _ h => h) (Or.inl ⟨by rfl, ?_⟩) ?_ ?_
      rotate_left
      · intro w'
        go_simp
        with_reducible rfl
      rotate_left
      · simp only [Act.put, List.setIfInBounds_toArray, List.set_cons_zero, List.set_cons_succ, i64_w, i32_w]
        rfl
      refine pure_ (i := 6) (N := some 47) (v := ?_) (a' := ?_) #[true, true, true, true, true, false, true, false, false, false, false] rfl rfl (by kernel_rfl) (fun _ _ _ h => h) (Or.inl ⟨by rfl, ?_⟩) ?_ ?_
      rotate_left
      · intro w'
        go_simp
        with_reducible rfl
      rotate_left
      · simp only [Act.put, List.setIfInBounds_toArray, List.set_cons_zero, List.set_cons_succ, i64_w, i32_w]
        rfl
      refine pure_ (i := 7) (N := some 48) (v := ?_) (a' := ?_) #[true, true, true, true, true, false, true, true, false, false, false] rfl rfl (by kernel_rfl) (fun _ _ _ h => h) (Or.inl ⟨by rfl, ?_⟩) ?_ ?_
      rotate_left
      · intro w'
        go_simp
        with_reducible rfl
      rotate_left
      · simp only [Act.put, List.setIfInBounds_toArray, List.set_cons_zero, List.set_cons_succ, i64_w, i32_w]
        rfl
      refine pure_ (i := 8) (N := some 49) (v := ?_) (a' := ?_) #[true, true, true, true, true, false, true, true, true, false, false] rfl rfl (by kernel_rfl) (fun _ _ _ h => h) (Or.inl ⟨by rfl, ?_⟩) ?_ ?_
      rotate_left
      · intro w'
        go_simp
        with_reducible rfl
      rotate_left
      · simp only [Act.put, List.setIfInBounds_toArray, List.set_cons_zero, List.set_cons_succ, i64_w, i32_w]
        rfl
      refine one_ (i := 5) (N := some 46) #[true, true, true, true, true, true, true, true, true, false, false] rfl rfl (by kernel_rfl) (by decide) (fun K hK => ?_)
      refine goes_ Tryd.func26 (by kernel_rfl) rfl #[.int .u8 (bt s 0)] (by rfl) rfl rfl (by simp only [List.map_toArray, List.map_cons, List.map_nil]; rfl) ?_
      with_reducible refine (shown.walk (bt s 0) _ HRG.out.1 HRG.out.2).mono ?_
      rintro e w3 ⟨rfl, hb⟩
      refine ⟨_, rfl, ?_⟩
      have hs : Below w2.heap.size w2 w3 := below_step (by repeat (first | exact Below.refl _ _ | apply below_alloc | apply pw_below_drewN | apply below_drew1)) hb
      have hl : w2.heap.size ≤ _ := below_size (w := w2) (by repeat (first | exact Below.refl _ _ | apply below_alloc | apply pw_below_drewN | apply below_drew1))
      have SZ3 := Aside0.mk (show w2.heap.size ≤ w3.heap.size from hs.size)
      have n_ := Aside0.mk (below_step HB.out hs)
      clear HB
      have HB := n_
      clear n_ hs hb
      (try clear hl)
      refine hK.out _ _ trivial (fun hHeld => ?_)
      clear hK K
      refine norm_ (a' := ?_) ?_ ?_
      rotate_left
      · show Act.put _ (some 46) _ = _
        simp only [Act.put, List.setIfInBounds_toArray, List.set_cons_zero, List.set_cons_succ, i64_w, i32_w]
        rfl
      refine pure_ (i := 9) (N := some 50) (v := ?_) (a' := ?_) #[true, true, true, true, true, true, true, true, true, true, false] rfl rfl (by kernel_rfl) (fun _ _ _ h => h) (Or.inl ⟨by rfl, ?_⟩) ?_ ?_
      rotate_left
      · intro w'
        go_simp
        with_reducible rfl
      rotate_left
      · simp only [Act.put, List.setIfInBounds_toArray, List.set_cons_zero, List.set_cons_succ, i64_w, i32_w]
        rfl
      refine pure_ (i := 10) (N := some 51) (v := ?_) (a' := ?_) #[true, true, true, true, true, true, true, true, true, true, true] rfl rfl (by kernel_rfl) (fun _ _ _ h => h) (Or.inl ⟨by rfl, ?_⟩) ?_ ?_
      rotate_left
      · intro w'
        go_simp
        with_reducible rfl
      rotate_left
      · simp only [Act.put, List.setIfInBounds_toArray, List.set_cons_zero, List.set_cons_succ, i64_w, i32_w]
        rfl
      refine done_ (by kernel_rfl) ?_
      
      cases q
      · go_wp2_with (fail)
        go_ret2
        exact ⟨by unfold chk; rw [if_neg HQ0.out, HQ.out]; rfl, (by repeat (first | exact HB.out | apply below_alloc | apply pw_below_drewN | apply below_drew1))⟩
      · go_wp2_with (fail)
        go_ret2
        exact ⟨by unfold chk; rw [if_neg HQ0.out, HQ.out]; rfl, (by repeat (first | exact HB.out | apply below_alloc | apply pw_below_drewN | apply below_drew1))⟩
    · have h7 : (bt s 0 == 92) = false := by simpa using h5
      clear h2 h5
      have HQ0 := Aside0.mk hq0
      have e0 : (bt s 0 == 34) = false := by simpa using hq0
      clear hq0
      obtain ⟨q, hq⟩ : ∃ q : Bool, ((strOfNums (shownL (bt s 0))).toList == (s.extract 0 1).toList) = q := ⟨_, rfl⟩
      have HQ := Aside0.mk hq
      go_wp2_with (first | (go_at_call 28; refine (Tryd.strings_HasPrefix s _ _).mono ?_; rintro e wh ⟨rfl, hw⟩; have hw2 := hw.symm; subst hw2))
      
      have hs : Below w.heap.size w (World.drew w) := below_drew1 (Below.refl _ _)
      have SZ4 := Aside0.mk (show w.heap.size ≤ (World.drew w).heap.size from hs.size)
      
      have n_ := Aside0.mk (below_step HB.out hs)
      clear HB
      have HB := n_
      clear n_ hs
      refine start_ (n := 11) (S := fun w' => True) (ds := []) #[false, false, false, false, false, false, false, false, false, false, false] (by kernel_rfl) rfl rfl trivial (fun hHeld => ?_)
      generalize World.drew w = w4 at HB  SZ4 hHeld ⊢
      refine pure_ (i := 0) (N := some 41) (v := ?_) (a' := ?_) #[true, false, false, false, false, false, false, false, false, false, false] rfl rfl (by kernel_rfl) (fun _ _ _ h => h) (Or.inl ⟨by rfl, ?_⟩) ?_ ?_
      rotate_left
      · intro w'
        go_simp
        with_reducible rfl
      rotate_left
      · simp only [Act.put, List.setIfInBounds_toArray, List.set_cons_zero, List.set_cons_succ, i64_w, i32_w]
        rfl
      refine take_ (i := 1) (N := some 42) (v := ?_) (a' := ?_) #[true, true, false, false, false, false, false, false, false, false, false] rfl rfl (by kernel_rfl) (fun _ _ _ h => h) (Or.inl ⟨by rfl, ?_⟩) hHeld ?_ ?_
      rotate_left
      · intro w' _
        go_simp
        with_reducible rfl
      rotate_left
      · simp only [Act.put, List.setIfInBounds_toArray, List.set_cons_zero, List.set_cons_succ, i64_w, i32_w]
        rfl
      refine pure_ (i := 2) (N := some 43) (v := ?_) (a' := ?_) #[true, true, true, false, false, false, false, false, false, false, false] rfl rfl (by kernel_rfl) (fun _ _ _ h => h) (Or.inl ⟨by rfl, ?_⟩) ?_ ?_
      rotate_left
      · intro w'
        go_simp
        with_reducible rfl
      rotate_left
      · simp only [Act.put, List.setIfInBounds_toArray, List.set_cons_zero, List.set_cons_succ, i64_w, i32_w]
        rfl
      refine pure_ (i := 3) (N := some 44) (v := ?_) (a' := ?_) #[true, true, true, true, false, false, false, false, false, false, false] rfl rfl (by kernel_rfl) (fun _ _ _ h => h) (Or.inl ⟨by rfl, ?_⟩) ?_ ?_
      rotate_left
      · intro w'
        go_simp
        with_reducible rfl
      rotate_left
      · simp only [Act.put, List.setIfInBounds_toArray, List.set_cons_zero, List.set_cons_succ, i64_w, i32_w]
        rfl
      refine pure_ (i := 4) (N := some 45) (v := ?_) (a' := ?_) #[true, true, true, true, true, false, false, false, false, false, false] rfl rfl (by kernel_rfl) (fun _ _ _ h => h) (Or.inl ⟨by rfl, ?_⟩) ?_ ?_
      rotate_left
      · intro w'
        go_simp
        with_reducible rfl
      rotate_left
      · simp only [Act.put, List.setIfInBounds_toArray, List.set_cons_zero, List.set_cons_succ, i64_w, i32_w]
        rfl
      refine pure_ (i := 6) (N := some 47) (v := ?_) (a' := ?_) #[true, true, true, true, true, false, true, false, false, false, false] rfl rfl (by kernel_rfl) (fun _ _ _ h => h) (Or.inl ⟨by rfl, ?_⟩) ?_ ?_
      rotate_left
      · intro w'
        go_simp
        with_reducible rfl
      rotate_left
      · simp only [Act.put, List.setIfInBounds_toArray, List.set_cons_zero, List.set_cons_succ, i64_w, i32_w]
        rfl
      refine pure_ (i := 7) (N := some 48) (v := ?_) (a' := ?_) #[true, true, true, true, true, false, true, true, false, false, false] rfl rfl (by kernel_rfl) (fun _ _ _ h => h) (Or.inl ⟨by rfl, ?_⟩) ?_ ?_
      rotate_left
      · intro w'
        go_simp
        with_reducible rfl
      rotate_left
      · simp only [Act.put, List.setIfInBounds_toArray, List.set_cons_zero, List.set_cons_succ, i64_w, i32_w]
        rfl
      refine pure_ (i := 8) (N := some 49) (v := ?_) (a' := ?_) #[true, true, true, true, true, false, true, true, true, false, false] rfl rfl (by kernel_rfl) (fun _ _ _ h => h) (Or.inl ⟨by rfl, ?_⟩) ?_ ?_
      rotate_left
      · intro w'
        go_simp
        with_reducible rfl
      rotate_left
      · simp only [Act.put, List.setIfInBounds_toArray, List.set_cons_zero, List.set_cons_succ, i64_w, i32_w]
        rfl
      refine one_ (i := 5) (N := some 46) #[true, true, true, true, true, true, true, true, true, false, false] rfl rfl (by kernel_rfl) (by decide) (fun K hK => ?_)
      refine goes_ Tryd.func26 (by kernel_rfl) rfl #[.int .u8 (bt s 0)] (by rfl) rfl rfl (by simp only [List.map_toArray, List.map_cons, List.map_nil]; rfl) ?_
      with_reducible refine (shown.walk (bt s 0) _ HRG.out.1 HRG.out.2).mono ?_
      rintro e w5 ⟨rfl, hb⟩
      refine ⟨_, rfl, ?_⟩
      have hs : Below w4.heap.size w4 w5 := below_step (by repeat (first | exact Below.refl _ _ | apply below_alloc | apply pw_below_drewN | apply below_drew1)) hb
      have hl : w4.heap.size ≤ _ := below_size (w := w4) (by repeat (first | exact Below.refl _ _ | apply below_alloc | apply pw_below_drewN | apply below_drew1))
      have SZ5 := Aside0.mk (show w4.heap.size ≤ w5.heap.size from hs.size)
      have n_ := Aside0.mk (below_step HB.out hs)
      clear HB
      have HB := n_
      clear n_ hs hb
      (try clear hl)
      refine hK.out _ _ trivial (fun hHeld => ?_)
      clear hK K
      refine norm_ (a' := ?_) ?_ ?_
      rotate_left
      · show Act.put _ (some 46) _ = _
        simp only [Act.put, List.setIfInBounds_toArray, List.set_cons_zero, List.set_cons_succ, i64_w, i32_w]
        rfl
      refine pure_ (i := 9) (N := some 50) (v := ?_) (a' := ?_) #[true, true, true, true, true, true, true, true, true, true, false] rfl rfl (by kernel_rfl) (fun _ _ _ h => h) (Or.inl ⟨by rfl, ?_⟩) ?_ ?_
      rotate_left
      · intro w'
        go_simp
        with_reducible rfl
      rotate_left
      · simp only [Act.put, List.setIfInBounds_toArray, List.set_cons_zero, List.set_cons_succ, i64_w, i32_w]
        rfl
      refine pure_ (i := 10) (N := some 51) (v := ?_) (a' := ?_) #[true, true, true, true, true, true, true, true, true, true, true] rfl rfl (by kernel_rfl) (fun _ _ _ h => h) (Or.inl ⟨by rfl, ?_⟩) ?_ ?_
      rotate_left
      · intro w'
        go_simp
        with_reducible rfl
      rotate_left
      · simp only [Act.put, List.setIfInBounds_toArray, List.set_cons_zero, List.set_cons_succ, i64_w, i32_w]
        rfl
      refine done_ (by kernel_rfl) ?_
      
      cases q
      · go_wp2_with (fail)
        go_ret2
        exact ⟨by unfold chk; rw [if_neg HQ0.out, HQ.out]; rfl, (by repeat (first | exact HB.out | apply below_alloc | apply pw_below_drewN | apply below_drew1))⟩
      · go_wp2_with (fail)
        go_ret2
        exact ⟨by unfold chk; rw [if_neg HQ0.out, HQ.out]; rfl, (by repeat (first | exact HB.out | apply below_alloc | apply pw_below_drewN | apply below_drew1))⟩
set_option maxHeartbeats 8000000 in
set_option maxRecDepth 100000 in
theorem thing2 (s : ByteArray) (w : World) (hs : 2 ≤ s.size) (hp : ¬ (pX s = true ∧ 4 ≤ s.size)) (h2 : bt s 0 = 92) : Calls Tryd.prog 29 #[.string s] w fun e w' => e = .returned (.tuple #[.int .u8 (chk s (bt s 1) 2).1, .int .i64 (chk s (bt s 1) 2).2]) ∧ Below w.heap.size w w' := by
  have HB := Aside0.mk (Below.refl w.heap.size w)
  have hx0 : ∀ h : 0 < s.size, ((s[0]'h).toNat : Int) = bt s 0 := bt_at s 0
  have HRG := Aside0.mk (bt_range s 0)
  have hx1 : ∀ h : 1 < s.size, ((s[1]'h).toNat : Int) = bt s 1 := bt_at s 1
  have HRG1 := Aside0.mk (bt_range s 1)
  have hi : (2 : Int) ≤ (s.size : Int) := by omega
  have h6 : decide ((s.size : Int) ≥ 2) = true := decide_eq_true hi
  have h7 : (bt s 0 == 92) = true := by simpa using h2
  have hq0 : ¬ bt s 0 = 34 := by omega
  have hs1 : 1 < s.size := by omega
  have hs0 : 0 < s.size := by omega
  obtain ⟨p, hpp⟩ : ∃ p : Bool, Lib.hasPrefix s.data.toList [92, 120] = p := ⟨_, rfl⟩
  have h4 : p = false ∨ (p = true ∧ decide ((s.size : Int) ≥ 4) = false) := by
    cases p
    · exact .inl rfl
    · exact .inr ⟨rfl, decide_eq_false (fun h => hp ⟨hpp, by omega⟩)⟩
  clear hp h2
  go_enter Tryd.func29, Tryd.ntmps29
  rcases h4 with rfl | ⟨rfl, h4⟩
  · skip
    have HQ0 := Aside0.mk hq0
    have e0 : (bt s 0 == 34) = false := by simpa using hq0
    clear hq0
    obtain ⟨q, hq⟩ : ∃ q : Bool, ((strOfNums (shownL (bt s 1))).toList == (s.extract 0 2).toList) = q := ⟨_, rfl⟩
    have HQ := Aside0.mk hq
    go_wp2_with (first | (go_at_call 28; refine (Tryd.strings_HasPrefix s _ _).mono ?_; rintro e wh ⟨rfl, hw⟩; have hw2 := hw.symm; subst hw2))
    
    have hs : Below w.heap.size w (World.drew w) := below_drew1 (Below.refl _ _)
    have SZ1 := Aside0.mk (show w.heap.size ≤ (World.drew w).heap.size from hs.size)
    
    have n_ := Aside0.mk (below_step HB.out hs)
    clear HB
    have HB := n_
    clear n_ hs
    refine start_ (n := 11) (S := fun w' => True) (ds := []) #[false, false, false, false, false, false, false, false, false, false, false] (by kernel_rfl) rfl rfl trivial (fun hHeld => ?_)
    generalize World.drew w = w1 at HB  SZ1 hHeld ⊢
    refine pure_ (i := 0) (N := some 41) (v := ?_) (a' := ?_) #[true, false, false, false, false, false, false, false, false, false, false] rfl rfl (by kernel_rfl) (fun _ _ _ h => h) (Or.inl ⟨by rfl, ?_⟩) ?_ ?_
    rotate_left
    · intro w'
      go_simp
      with_reducible rfl
    rotate_left
    · simp only [Act.put, List.setIfInBounds_toArray, List.set_cons_zero, List.set_cons_succ, i64_w, i32_w]
      rfl
    refine take_ (i := 1) (N := some 42) (v := ?_) (a' := ?_) #[true, true, false, false, false, false, false, false, false, false, false] rfl rfl (by kernel_rfl) (fun _ _ _ h => h) (Or.inl ⟨by rfl, ?_⟩) hHeld ?_ ?_
    rotate_left
    · intro w' _
      go_simp
      with_reducible rfl
    rotate_left
    · simp only [Act.put, List.setIfInBounds_toArray, List.set_cons_zero, List.set_cons_succ, i64_w, i32_w]
      rfl
    refine pure_ (i := 2) (N := some 43) (v := ?_) (a' := ?_) #[true, true, true, false, false, false, false, false, false, false, false] rfl rfl (by kernel_rfl) (fun _ _ _ h => h) (Or.inl ⟨by rfl, ?_⟩) ?_ ?_
    rotate_left
    · intro w'
      go_simp
      with_reducible rfl
    rotate_left
    · simp only [Act.put, List.setIfInBounds_toArray, List.set_cons_zero, List.set_cons_succ, i64_w, i32_w]
      rfl
    refine pure_ (i := 3) (N := some 44) (v := ?_) (a' := ?_) #[true, true, true, true, false, false, false, false, false, false, false] rfl rfl (by kernel_rfl) (fun _ _ _ h => h) (Or.inl ⟨by rfl, ?_⟩) ?_ ?_
    rotate_left
    · intro w'
      go_simp
      with_reducible rfl
    rotate_left
    · simp only [Act.put, List.setIfInBounds_toArray, List.set_cons_zero, List.set_cons_succ, i64_w, i32_w]
      rfl
    refine pure_ (i := 4) (N := some 45) (v := ?_) (a' := ?_) #[true, true, true, true, true, false, false, false, false, false, false] rfl rfl (by kernel_rfl) (fun _ _ _ h => h) (Or.inl ⟨by rfl, ?_⟩) ?_ ?_
    rotate_left
    · intro w'
      go_simp
      with_reducible rfl
    rotate_left
    · simp only [Act.put, List.setIfInBounds_toArray, List.set_cons_zero, List.set_cons_succ, i64_w, i32_w]
      rfl
    refine pure_ (i := 6) (N := some 47) (v := ?_) (a' := ?_) #[true, true, true, true, true, false, true, false, false, false, false] rfl rfl (by kernel_rfl) (fun _ _ _ h => h) (Or.inl ⟨by rfl, ?_⟩) ?_ ?_
    rotate_left
    · intro w'
      go_simp
      with_reducible rfl
    rotate_left
    · simp only [Act.put, List.setIfInBounds_toArray, List.set_cons_zero, List.set_cons_succ, i64_w, i32_w]
      rfl
    refine pure_ (i := 7) (N := some 48) (v := ?_) (a' := ?_) #[true, true, true, true, true, false, true, true, false, false, false] rfl rfl (by kernel_rfl) (fun _ _ _ h => h) (Or.inl ⟨by rfl, ?_⟩) ?_ ?_
    rotate_left
    · intro w'
      go_simp
      with_reducible rfl
    rotate_left
    · simp only [Act.put, List.setIfInBounds_toArray, List.set_cons_zero, List.set_cons_succ, i64_w, i32_w]
      rfl
    refine pure_ (i := 8) (N := some 49) (v := ?_) (a' := ?_) #[true, true, true, true, true, false, true, true, true, false, false] rfl rfl (by kernel_rfl) (fun _ _ _ h => h) (Or.inl ⟨by rfl, ?_⟩) ?_ ?_
    rotate_left
    · intro w'
      go_simp
      with_reducible rfl
    rotate_left
    · simp only [Act.put, List.setIfInBounds_toArray, List.set_cons_zero, List.set_cons_succ, i64_w, i32_w]
      rfl
    refine one_ (i := 5) (N := some 46) #[true, true, true, true, true, true, true, true, true, false, false] rfl rfl (by kernel_rfl) (by decide) (fun K hK => ?_)
    refine goes_ Tryd.func26 (by kernel_rfl) rfl #[.int .u8 (bt s 1)] (by rfl) rfl rfl (by simp only [List.map_toArray, List.map_cons, List.map_nil]; rfl) ?_
    with_reducible refine (shown.walk (bt s 1) _ HRG1.out.1 HRG1.out.2).mono ?_
    rintro e w2 ⟨rfl, hb⟩
    refine ⟨_, rfl, ?_⟩
    have hs : Below w1.heap.size w1 w2 := below_step (by repeat (first | exact Below.refl _ _ | apply below_alloc | apply pw_below_drewN | apply below_drew1)) hb
    have hl : w1.heap.size ≤ _ := below_size (w := w1) (by repeat (first | exact Below.refl _ _ | apply below_alloc | apply pw_below_drewN | apply below_drew1))
    have SZ2 := Aside0.mk (show w1.heap.size ≤ w2.heap.size from hs.size)
    have n_ := Aside0.mk (below_step HB.out hs)
    clear HB
    have HB := n_
    clear n_ hs hb
    (try clear hl)
    refine hK.out _ _ trivial (fun hHeld => ?_)
    clear hK K
    refine norm_ (a' := ?_) ?_ ?_
    rotate_left
    · show Act.put _ (some 46) _ = _
      simp only [Act.put, List.setIfInBounds_toArray, List.set_cons_zero, List.set_cons_succ, i64_w, i32_w]
      rfl
    refine pure_ (i := 9) (N := some 50) (v := ?_) (a' := ?_) #[true, true, true, true, true, true, true, true, true, true, false] rfl rfl (by kernel_rfl) (fun _ _ _ h => h) (Or.inl ⟨by rfl, ?_⟩) ?_ ?_
    rotate_left
    · intro w'
      go_simp
      with_reducible rfl
    rotate_left
    · simp only [Act.put, List.setIfInBounds_toArray, List.set_cons_zero, List.set_cons_succ, i64_w, i32_w]
      rfl
    refine pure_ (i := 10) (N := some 51) (v := ?_) (a' := ?_) #[true, true, true, true, true, true, true, true, true, true, true] rfl rfl (by kernel_rfl) (fun _ _ _ h => h) (Or.inl ⟨by rfl, ?_⟩) ?_ ?_
    rotate_left
    · intro w'
      go_simp
      with_reducible rfl
    rotate_left
    · simp only [Act.put, List.setIfInBounds_toArray, List.set_cons_zero, List.set_cons_succ, i64_w, i32_w]
      rfl
    refine done_ (by kernel_rfl) ?_
    
    cases q
    · go_wp2_with (fail)
      go_ret2
      exact ⟨by unfold chk; rw [if_neg HQ0.out, HQ.out]; rfl, (by repeat (first | exact HB.out | apply below_alloc | apply pw_below_drewN | apply below_drew1))⟩
    · go_wp2_with (fail)
      go_ret2
      exact ⟨by unfold chk; rw [if_neg HQ0.out, HQ.out]; rfl, (by repeat (first | exact HB.out | apply below_alloc | apply pw_below_drewN | apply below_drew1))⟩
  · skip
    have HQ0 := Aside0.mk hq0
    have e0 : (bt s 0 == 34) = false := by simpa using hq0
    clear hq0
    obtain ⟨q, hq⟩ : ∃ q : Bool, ((strOfNums (shownL (bt s 1))).toList == (s.extract 0 2).toList) = q := ⟨_, rfl⟩
    have HQ := Aside0.mk hq
    go_wp2_with (first | (go_at_call 28; refine (Tryd.strings_HasPrefix s _ _).mono ?_; rintro e wh ⟨rfl, hw⟩; have hw2 := hw.symm; subst hw2))
    
    have hs : Below w.heap.size w (World.drew w) := below_drew1 (Below.refl _ _)
    have SZ3 := Aside0.mk (show w.heap.size ≤ (World.drew w).heap.size from hs.size)
    
    have n_ := Aside0.mk (below_step HB.out hs)
    clear HB
    have HB := n_
    clear n_ hs
    refine start_ (n := 11) (S := fun w' => True) (ds := []) #[false, false, false, false, false, false, false, false, false, false, false] (by kernel_rfl) rfl rfl trivial (fun hHeld => ?_)
    generalize World.drew w = w3 at HB  SZ3 hHeld ⊢
    refine pure_ (i := 0) (N := some 41) (v := ?_) (a' := ?_) #[true, false, false, false, false, false, false, false, false, false, false] rfl rfl (by kernel_rfl) (fun _ _ _ h => h) (Or.inl ⟨by rfl, ?_⟩) ?_ ?_
    rotate_left
    · intro w'
      go_simp
      with_reducible rfl
    rotate_left
    · simp only [Act.put, List.setIfInBounds_toArray, List.set_cons_zero, List.set_cons_succ, i64_w, i32_w]
      rfl
    refine take_ (i := 1) (N := some 42) (v := ?_) (a' := ?_) #[true, true, false, false, false, false, false, false, false, false, false] rfl rfl (by kernel_rfl) (fun _ _ _ h => h) (Or.inl ⟨by rfl, ?_⟩) hHeld ?_ ?_
    rotate_left
    · intro w' _
      go_simp
      with_reducible rfl
    rotate_left
    · simp only [Act.put, List.setIfInBounds_toArray, List.set_cons_zero, List.set_cons_succ, i64_w, i32_w]
      rfl
    refine pure_ (i := 2) (N := some 43) (v := ?_) (a' := ?_) #[true, true, true, false, false, false, false, false, false, false, false] rfl rfl (by kernel_rfl) (fun _ _ _ h => h) (Or.inl ⟨by rfl, ?_⟩) ?_ ?_
    rotate_left
    · intro w'
      go_simp
      with_reducible rfl
    rotate_left
    · simp only [Act.put, List.setIfInBounds_toArray, List.set_cons_zero, List.set_cons_succ, i64_w, i32_w]
      rfl
    refine pure_ (i := 3) (N := some 44) (v := ?_) (a' := ?_) #[true, true, true, true, false, false, false, false, false, false, false] rfl rfl (by kernel_rfl) (fun _ _ _ h => h) (Or.inl ⟨by rfl, ?_⟩) ?_ ?_
    rotate_left
    · intro w'
      go_simp
      with_reducible rfl
    rotate_left
    · simp only [Act.put, List.setIfInBounds_toArray, List.set_cons_zero, List.set_cons_succ, i64_w, i32_w]
      rfl
    refine pure_ (i := 4) (N := some 45) (v := ?_) (a' := ?_) #[true, true, true, true, true, false, false, false, false, false, false] rfl rfl (by kernel_rfl) (fun _ _ _ h => h) (Or.inl ⟨by rfl, ?_⟩) ?_ ?_
    rotate_left
    · intro w'
      go_simp
      with_reducible rfl
    rotate_left
    · simp only [Act.put, List.setIfInBounds_toArray, List.set_cons_zero, List.set_cons_succ, i64_w, i32_w]
      rfl
    refine pure_ (i := 6) (N := some 47) (v := ?_) (a' := ?_) #[true, true, true, true, true, false, true, false, false, false, false] rfl rfl (by kernel_rfl) (fun _ _ _ h => h) (Or.inl ⟨by rfl, ?_⟩) ?_ ?_
    rotate_left
    · intro w'
      go_simp
      with_reducible rfl
    rotate_left
    · simp only [Act.put, List.setIfInBounds_toArray, List.set_cons_zero, List.set_cons_succ, i64_w, i32_w]
      rfl
    refine pure_ (i := 7) (N := some 48) (v := ?_) (a' := ?_) #[true, true, true, true, true, false, true, true, false, false, false] rfl rfl (by kernel_rfl) (fun _ _ _ h => h) (Or.inl ⟨by rfl, ?_⟩) ?_ ?_
    rotate_left
    · intro w'
      go_simp
      with_reducible rfl
    rotate_left
    · simp only [Act.put, List.setIfInBounds_toArray, List.set_cons_zero, List.set_cons_succ, i64_w, i32_w]
      rfl
    refine pure_ (i := 8) (N := some 49) (v := ?_) (a' := ?_) #[true, true, true, true, true, false, true, true, true, false, false] rfl rfl (by kernel_rfl) (fun _ _ _ h => h) (Or.inl ⟨by rfl, ?_⟩) ?_ ?_
    rotate_left
    · intro w'
      go_simp
      with_reducible rfl
    rotate_left
    · simp only [Act.put, List.setIfInBounds_toArray, List.set_cons_zero, List.set_cons_succ, i64_w, i32_w]
      rfl
    refine one_ (i := 5) (N := some 46) #[true, true, true, true, true, true, true, true, true, false, false] rfl rfl (by kernel_rfl) (by decide) (fun K hK => ?_)
    refine goes_ Tryd.func26 (by kernel_rfl) rfl #[.int .u8 (bt s 1)] (by rfl) rfl rfl (by simp only [List.map_toArray, List.map_cons, List.map_nil]; rfl) ?_
    with_reducible refine (shown.walk (bt s 1) _ HRG1.out.1 HRG1.out.2).mono ?_
    rintro e w4 ⟨rfl, hb⟩
    refine ⟨_, rfl, ?_⟩
    have hs : Below w3.heap.size w3 w4 := below_step (by repeat (first | exact Below.refl _ _ | apply below_alloc | apply pw_below_drewN | apply below_drew1)) hb
    have hl : w3.heap.size ≤ _ := below_size (w := w3) (by repeat (first | exact Below.refl _ _ | apply below_alloc | apply pw_below_drewN | apply below_drew1))
    have SZ4 := Aside0.mk (show w3.heap.size ≤ w4.heap.size from hs.size)
    have n_ := Aside0.mk (below_step HB.out hs)
    clear HB
    have HB := n_
    clear n_ hs hb
    (try clear hl)
    refine hK.out _ _ trivial (fun hHeld => ?_)
    clear hK K
    refine norm_ (a' := ?_) ?_ ?_
    rotate_left
    · show Act.put _ (some 46) _ = _
      simp only [Act.put, List.setIfInBounds_toArray, List.set_cons_zero, List.set_cons_succ, i64_w, i32_w]
      rfl
    refine pure_ (i := 9) (N := some 50) (v := ?_) (a' := ?_) #[true, true, true, true, true, true, true, true, true, true, false] rfl rfl (by kernel_rfl) (fun _ _ _ h => h) (Or.inl ⟨by rfl, ?_⟩) ?_ ?_
    rotate_left
    · intro w'
      go_simp
      with_reducible rfl
    rotate_left
    · simp only [Act.put, List.setIfInBounds_toArray, List.set_cons_zero, List.set_cons_succ, i64_w, i32_w]
      rfl
    refine pure_ (i := 10) (N := some 51) (v := ?_) (a' := ?_) #[true, true, true, true, true, true, true, true, true, true, true] rfl rfl (by kernel_rfl) (fun _ _ _ h => h) (Or.inl ⟨by rfl, ?_⟩) ?_ ?_
    rotate_left
    · intro w'
      go_simp
      with_reducible rfl
    rotate_left
    · simp only [Act.put, List.setIfInBounds_toArray, List.set_cons_zero, List.set_cons_succ, i64_w, i32_w]
      rfl
    refine done_ (by kernel_rfl) ?_
    
    cases q
    · go_wp2_with (fail)
      go_ret2
      exact ⟨by unfold chk; rw [if_neg HQ0.out, HQ.out]; rfl, (by repeat (first | exact HB.out | apply below_alloc | apply pw_below_drewN | apply below_drew1))⟩
    · go_wp2_with (fail)
      go_ret2
      exact ⟨by unfold chk; rw [if_neg HQ0.out, HQ.out]; rfl, (by repeat (first | exact HB.out | apply below_alloc | apply pw_below_drewN | apply below_drew1))⟩
theorem bt_extract (s : ByteArray) (i : Nat) (h : 4 ≤ s.size) (hi : i < 2) : bt (s.extract 2 4) (i : Int) = bt s ((i + 2 : Nat) : Int) := by
  unfold bt
  have hsz : (s.extract 2 4).size = 2 := by rw [ByteArray.size_extract]; omega
  rw [dif_pos (by rw [hsz]; omega), dif_pos (by omega)]
  simp only [ByteArray.getElem_extract, Int.toNat_natCast]
  congr 3
  omega
theorem pu_ok {a b : Int} (h : hexv a < 16 ∧ hexv b < 16) : pu a b = .tuple #[.int .u64 (hexv a * 16 + hexv b), .nilIface] := by unfold pu; rw [if_pos h]
theorem pu_no {a b : Int} (h : ¬ (hexv a < 16 ∧ hexv b < 16)) : pu a b = .tuple #[.int .u64 0, .iface 79 (.int .i64 2)] := by unfold pu; rw [if_neg h]
set_option maxHeartbeats 8000000 in
set_option maxRecDepth 100000 in
theorem thing4_ok (s : ByteArray) (w : World) (hs : 4 ≤ s.size) (hp : pX s = true) (c : Int) (hg : hexv (bt s 2) < 16 ∧ hexv (bt s 3) < 16) (hc : hexv (bt s 2) * 16 + hexv (bt s 3) = c) : Calls Tryd.prog 29 #[.string s] w fun e w' => e = .returned (.tuple #[.int .u8 (chk s c 4).1, .int .i64 (chk s c 4).2]) ∧ Below w.heap.size w w' := by
  have HB := Aside0.mk (Below.refl w.heap.size w)
  have hx0 : ∀ h : 0 < s.size, ((s[0]'h).toNat : Int) = bt s 0 := bt_at s 0
  have HRG := Aside0.mk (bt_range s 0)
  have hi : (4 : Int) ≤ (s.size : Int) := by omega
  have h4 : decide ((s.size : Int) ≥ 4) = true := decide_eq_true hi
  have hq0 : ¬ bt s 0 = 34 := by have := (pX_yes s hp).1; omega
  have hs3 : 3 < s.size := by omega
  have hs0 : 0 < s.size := by omega
  have hx3 : ∀ h : 3 < s.size, ((s[3]'h).toNat : Int) = bt s 3 := bt_at s 3
  have hpp : Lib.hasPrefix s.data.toList [92, 120] = true := hp
  have HSE := Aside0.mk (show (s.extract 2 4).size = 2 by rw [ByteArray.size_extract]; omega)
  have hrc : 0 ≤ c ∧ c ≤ 255 := by
    have a := hexv_ge (bt s 2) (bt_range s 2).1
    have b := hexv_ge (bt s 3) (bt_range s 3).1
    omega
  have HRC := Aside0.mk hrc
  have hw8 : c % 256 = c := by omega
  have HPU := Aside0.mk (show pu (bt (s.extract 2 4) 0) (bt (s.extract 2 4) 1) = .tuple #[.int .u64 c, .nilIface] by rw [show bt (s.extract 2 4) 0 = bt s 2 from bt_extract s 0 hs (by omega), show bt (s.extract 2 4) 1 = bt s 3 from bt_extract s 1 hs (by omega), pu_ok hg, hc])
  clear hp hg hc hrc
  go_enter Tryd.func29, Tryd.ntmps29
  have HQ0 := Aside0.mk hq0
  have e0 : (bt s 0 == 34) = false := by simpa using hq0
  clear hq0
  obtain ⟨q, hq⟩ : ∃ q : Bool, ((strOfNums (shownL (c))).toList == (s.extract 0 4).toList) = q := ⟨_, rfl⟩
  have HQ := Aside0.mk hq
  go_wp2_with (first | (go_at_call 28; refine (Tryd.strings_HasPrefix s _ _).mono ?_; rintro e wh ⟨rfl, hw⟩; have hw2 := hw.symm; subst hw2) | (go_at_call 40; (with_reducible refine (ParseUintPub_ok (s.extract 2 4) c _ HSE.out HPU.out).mono ?_); rintro e w5 ⟨rfl, hb⟩; have n_ := Aside0.mk (below_step HB.out hb); clear HB hb; have HB := n_; clear n_))
  
  have hs : Below w5.heap.size w5 (World.drew w5) := below_drew1 (Below.refl _ _)
  have SZ1 := Aside0.mk (show w5.heap.size ≤ (World.drew w5).heap.size from hs.size)
  
  have n_ := Aside0.mk (below_step HB.out hs)
  clear HB
  have HB := n_
  clear n_ hs
  refine start_ (n := 11) (S := fun w' => True) (ds := []) #[false, false, false, false, false, false, false, false, false, false, false] (by kernel_rfl) rfl rfl trivial (fun hHeld => ?_)
  generalize World.drew w5 = w1 at HB  SZ1 hHeld ⊢
  refine pure_ (i := 0) (N := some 41) (v := ?_) (a' := ?_) #[true, false, false, false, false, false, false, false, false, false, false] rfl rfl (by kernel_rfl) (fun _ _ _ h => h) (Or.inl ⟨by rfl, ?_⟩) ?_ ?_
  rotate_left
  · intro w'
    go_simp
    with_reducible rfl
  rotate_left
  · simp only [Act.put, List.setIfInBounds_toArray, List.set_cons_zero, List.set_cons_succ, i64_w, i32_w]
    rfl
  refine take_ (i := 1) (N := some 42) (v := ?_) (a' := ?_) #[true, true, false, false, false, false, false, false, false, false, false] rfl rfl (by kernel_rfl) (fun _ _ _ h => h) (Or.inl ⟨by rfl, ?_⟩) hHeld ?_ ?_
  rotate_left
  · intro w' _
    go_simp
    with_reducible rfl
  rotate_left
  · simp only [Act.put, List.setIfInBounds_toArray, List.set_cons_zero, List.set_cons_succ, i64_w, i32_w]
    rfl
  refine pure_ (i := 2) (N := some 43) (v := ?_) (a' := ?_) #[true, true, true, false, false, false, false, false, false, false, false] rfl rfl (by kernel_rfl) (fun _ _ _ h => h) (Or.inl ⟨by rfl, ?_⟩) ?_ ?_
  rotate_left
  · intro w'
    go_simp
    with_reducible rfl
  rotate_left
  · simp only [Act.put, List.setIfInBounds_toArray, List.set_cons_zero, List.set_cons_succ, i64_w, i32_w]
    rfl
  refine pure_ (i := 3) (N := some 44) (v := ?_) (a' := ?_) #[true, true, true, true, false, false, false, false, false, false, false] rfl rfl (by kernel_rfl) (fun _ _ _ h => h) (Or.inl ⟨by rfl, ?_⟩) ?_ ?_
  rotate_left
  · intro w'
    go_simp
    with_reducible rfl
  rotate_left
  · simp only [Act.put, List.setIfInBounds_toArray, List.set_cons_zero, List.set_cons_succ, i64_w, i32_w]
    rfl
  refine pure_ (i := 4) (N := some 45) (v := ?_) (a' := ?_) #[true, true, true, true, true, false, false, false, false, false, false] rfl rfl (by kernel_rfl) (fun _ _ _ h => h) (Or.inl ⟨by rfl, ?_⟩) ?_ ?_
  rotate_left
  · intro w'
    go_simp
    with_reducible rfl
  rotate_left
  · simp only [Act.put, List.setIfInBounds_toArray, List.set_cons_zero, List.set_cons_succ, i64_w, i32_w]
    rfl
  refine pure_ (i := 6) (N := some 47) (v := ?_) (a' := ?_) #[true, true, true, true, true, false, true, false, false, false, false] rfl rfl (by kernel_rfl) (fun _ _ _ h => h) (Or.inl ⟨by rfl, ?_⟩) ?_ ?_
  rotate_left
  · intro w'
    go_simp
    with_reducible rfl
  rotate_left
  · simp only [Act.put, List.setIfInBounds_toArray, List.set_cons_zero, List.set_cons_succ, i64_w, i32_w]
    rfl
  refine pure_ (i := 7) (N := some 48) (v := ?_) (a' := ?_) #[true, true, true, true, true, false, true, true, false, false, false] rfl rfl (by kernel_rfl) (fun _ _ _ h => h) (Or.inl ⟨by rfl, ?_⟩) ?_ ?_
  rotate_left
  · intro w'
    go_simp
    with_reducible rfl
  rotate_left
  · simp only [Act.put, List.setIfInBounds_toArray, List.set_cons_zero, List.set_cons_succ, i64_w, i32_w]
    rfl
  refine pure_ (i := 8) (N := some 49) (v := ?_) (a' := ?_) #[true, true, true, true, true, false, true, true, true, false, false] rfl rfl (by kernel_rfl) (fun _ _ _ h => h) (Or.inl ⟨by rfl, ?_⟩) ?_ ?_
  rotate_left
  · intro w'
    go_simp
    with_reducible rfl
  rotate_left
  · simp only [Act.put, List.setIfInBounds_toArray, List.set_cons_zero, List.set_cons_succ, i64_w, i32_w]
    rfl
  refine one_ (i := 5) (N := some 46) #[true, true, true, true, true, true, true, true, true, false, false] rfl rfl (by kernel_rfl) (by decide) (fun K hK => ?_)
  refine goes_ Tryd.func26 (by kernel_rfl) rfl #[.int .u8 (c)] (by rfl) rfl rfl (by simp only [List.map_toArray, List.map_cons, List.map_nil]; rfl) ?_
  with_reducible refine (shown.walk (c) _ HRC.out.1 HRC.out.2).mono ?_
  rintro e w2 ⟨rfl, hb⟩
  refine ⟨_, rfl, ?_⟩
  have hs : Below w1.heap.size w1 w2 := below_step (by repeat (first | exact Below.refl _ _ | apply below_alloc | apply pw_below_drewN | apply below_drew1)) hb
  have hl : w1.heap.size ≤ _ := below_size (w := w1) (by repeat (first | exact Below.refl _ _ | apply below_alloc | apply pw_below_drewN | apply below_drew1))
  have SZ2 := Aside0.mk (show w1.heap.size ≤ w2.heap.size from hs.size)
  have n_ := Aside0.mk (below_step HB.out hs)
  clear HB
  have HB := n_
  clear n_ hs hb
  (try clear hl)
  refine hK.out _ _ trivial (fun hHeld => ?_)
  clear hK K
  refine norm_ (a' := ?_) ?_ ?_
  rotate_left
  · show Act.put _ (some 46) _ = _
    simp only [Act.put, List.setIfInBounds_toArray, List.set_cons_zero, List.set_cons_succ, i64_w, i32_w]
    rfl
  refine pure_ (i := 9) (N := some 50) (v := ?_) (a' := ?_) #[true, true, true, true, true, true, true, true, true, true, false] rfl rfl (by kernel_rfl) (fun _ _ _ h => h) (Or.inl ⟨by rfl, ?_⟩) ?_ ?_
  rotate_left
  · intro w'
    go_simp
    with_reducible rfl
  rotate_left
  · simp only [Act.put, List.setIfInBounds_toArray, List.set_cons_zero, List.set_cons_succ, i64_w, i32_w]
    rfl
  refine pure_ (i := 10) (N := some 51) (v := ?_) (a' := ?_) #[true, true, true, true, true, true, true, true, true, true, true] rfl rfl (by kernel_rfl) (fun _ _ _ h => h) (Or.inl ⟨by rfl, ?_⟩) ?_ ?_
  rotate_left
  · intro w'
    go_simp
    with_reducible rfl
  rotate_left
  · simp only [Act.put, List.setIfInBounds_toArray, List.set_cons_zero, List.set_cons_succ, i64_w, i32_w]
    rfl
  refine done_ (by kernel_rfl) ?_
  
  cases q
  · go_wp2_with (fail)
    go_ret2
    exact ⟨by unfold chk; rw [if_neg HQ0.out, HQ.out]; rfl, (by repeat (first | exact HB.out | apply below_alloc | apply pw_below_drewN | apply below_drew1))⟩
  · go_wp2_with (fail)
    go_ret2
    exact ⟨by unfold chk; rw [if_neg HQ0.out, HQ.out]; rfl, (by repeat (first | exact HB.out | apply below_alloc | apply pw_below_drewN | apply below_drew1))⟩
set_option maxHeartbeats 8000000 in
set_option maxRecDepth 100000 in
theorem thing4_bad (s : ByteArray) (w : World) (hs : 4 ≤ s.size) (hp : pX s = true) (hg : ¬ (hexv (bt s 2) < 16 ∧ hexv (bt s 3) < 16)) (hV : VarsOk w) : Calls Tryd.prog 29 #[.string s] w fun e w' => e = .returned (.tuple #[.int .u8 (((0, 0) : Int × Int)).1, .int .i64 (((0, 0) : Int × Int)).2]) ∧ Below w.heap.size w w' := by
  have HB := Aside0.mk (Below.refl w.heap.size w)
  have hx0 : ∀ h : 0 < s.size, ((s[0]'h).toNat : Int) = bt s 0 := bt_at s 0
  have HRG := Aside0.mk (bt_range s 0)
  have hi : (4 : Int) ≤ (s.size : Int) := by omega
  have h4 : decide ((s.size : Int) ≥ 4) = true := decide_eq_true hi
  have hq0 : ¬ bt s 0 = 34 := by have := (pX_yes s hp).1; omega
  have hs3 : 3 < s.size := by omega
  have hs0 : 0 < s.size := by omega
  have hx3 : ∀ h : 3 < s.size, ((s[3]'h).toNat : Int) = bt s 3 := bt_at s 3
  have hpp : Lib.hasPrefix s.data.toList [92, 120] = true := hp
  have HSE := Aside0.mk (show (s.extract 2 4).size = 2 by rw [ByteArray.size_extract]; omega)
  have HV := Aside0.mk hV
  have HPU := Aside0.mk (show pu (bt (s.extract 2 4) 0) (bt (s.extract 2 4) 1) = .tuple #[.int .u64 0, .iface 79 (.int .i64 2)] by rw [show bt (s.extract 2 4) 0 = bt s 2 from bt_extract s 0 hs (by omega), show bt (s.extract 2 4) 1 = bt s 3 from bt_extract s 1 hs (by omega), pu_no hg])
  clear hp hg hV
  go_enter Tryd.func29, Tryd.ntmps29
  go_wp2_with (first | (go_at_call 28; refine (Tryd.strings_HasPrefix s _ _).mono ?_; rintro e wh ⟨rfl, hw⟩; have hw2 := hw.symm; subst hw2) | (go_at_call 40; (with_reducible refine (ParseUintPub_bad (s.extract 2 4) _ HSE.out HV.out HPU.out).mono ?_); rintro e w5 ⟨⟨ea, rfl⟩, hb⟩; have n_ := Aside0.mk (below_step HB.out hb); clear HB hb; have HB := n_; clear n_))
  go_ret2
  exact ⟨rfl, HB.out⟩
theorem thing.walk (s : ByteArray) (w : World) (hs : 0 < s.size) (hV : VarsOk w) : Calls Tryd.prog 29 #[.string s] w fun e w' => e = .returned (.tuple #[.int .u8 (thingF s).1, .int .i64 (thingF s).2]) ∧ Below w.heap.size w w' := by
  by_cases h4 : pX s = true ∧ 4 ≤ s.size
  · have hl : longOf s = 4 := by unfold longOf; rw [if_pos h4]
    by_cases hg : hexv (bt s 2) < 16 ∧ hexv (bt s 3) < 16
    · have e : thingF s = chk s (hexv (bt s 2) * 16 + hexv (bt s 3)) 4 := by unfold thingF; rw [if_pos hl, if_pos hg]
      rw [e]
      exact thing4_ok s w h4.2 h4.1 _ hg rfl
    · have e : thingF s = (0, 0) := by unfold thingF; rw [if_pos hl, if_neg hg]
      rw [e]
      exact thing4_bad s w h4.2 h4.1 hg hV
  · by_cases h2 : bt s 0 = 92 ∧ 2 ≤ s.size
    · have hl : longOf s = 2 := by unfold longOf; rw [if_neg h4, if_pos h2]
      have e : thingF s = chk s (bt s 1) 2 := by unfold thingF; rw [hl, if_neg (by omega)]; rfl
      rw [e]
      exact thing2 s w h2.2 h4 h2.1
    · have hl : longOf s = 1 := by unfold longOf; rw [if_neg h4, if_neg h2]
      have e : thingF s = chk s (bt s 0) 1 := by unfold thingF; rw [hl, if_neg (by omega)]; rfl
      rw [e]
      refine thing1 s w hs ?_ h2
      cases hp : pX s with
      | false => rfl
      | true => have := pX_yes s hp; exact absurd ⟨this.1, this.2.2⟩ h2
end Go.Proofs.YtmhfgcmgeglmhaaDoor.P

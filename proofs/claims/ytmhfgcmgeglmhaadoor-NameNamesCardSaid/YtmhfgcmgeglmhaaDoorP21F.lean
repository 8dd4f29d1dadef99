import Derived.Test.YtmhfgcmgeglmhaaDoorP21E
import Derived.Lib.OthersKept
import Derived.Laws.RangeAny
namespace Go.Proofs.YtmhfgcmgeglmhaaDoor.P
open Go.RowKit Go.Proofs.YtmhfgcmgeglmhaaDoorW.PrintWords Go.Proofs.YtmhfgcmgeglmhaaDoorW.PrintLast Go.Proofs.YtmhfgcmgeglmhaaDoorW.PrintMore
attribute [local go_sem] max2_int min2_int max_two min_two max_three min_three max_four min_four
set_option linter.unusedVariables false
set_option linter.unusedSimpArgs false
/-- What is told behind the last thing that was read. -/
def finP (s : ByteArray) (nx : Nat) (acc : List Int) : ByteArray × Int × Int := if nx = s.size then (⟨#[]⟩, (nx : Int), 6) else if nx + 1 < s.size then (⟨#[]⟩, ((nx + 1 : Nat) : Int), 6) else if 1 ≤ acc.length ∧ acc.length ≤ 24 then (strOfNums acc, 0, 0) else (⟨#[]⟩, 0, 6)
def plainP (s : ByteArray) : Nat → Nat → List Int → ByteArray × Int × Int
  | 0, nx, acc => finP s nx acc
  | k + 1, nx, acc => if nx < s.size then (if bt s (nx : Int) = 34 then finP s nx acc else if (thingF (s.extract nx s.size)).2 = 0 then (⟨#[]⟩, (nx : Int), 6) else plainP s k (nx + (thingF (s.extract nx s.size)).2.toNat) (acc ++ [(thingF (s.extract nx s.size)).1])) else finP s nx acc
theorem toList_len (s : ByteArray) : s.toList.length = s.size := by rw [ByteArray.toList_eq, data_length]
theorem eq_of_toList {a b : ByteArray} (h : (a.toList == b.toList) = true) : a = b := by
  have h := eq_of_beq h
  rw [ByteArray.toList_eq, ByteArray.toList_eq] at h
  exact (sbytes a b).mpr h
theorem bt_strOfNums (l : List Int) (h : ∀ x ∈ l, 0 ≤ x ∧ x ≤ 255) (j : Nat) (hj : j < l.length) : bt (strOfNums l) (j : Int) = l[j] := by
  rw [← rd_bytesOf, bytes_of_nums h]
  simp [rd, hj]
theorem bt_extract0 (s : ByteArray) (n j : Nat) (hn : n ≤ s.size) (hj : j < n) : bt (s.extract 0 n) (j : Int) = bt s (j : Int) := by
  unfold bt
  have hsz : (s.extract 0 n).size = n := by rw [ByteArray.size_extract]; omega
  rw [dif_pos (by rw [hsz]; omega), dif_pos (by omega)]
  simp only [ByteArray.getElem_extract, Int.toNat_natCast]
  congr 3
  omega
theorem bt_from (s : ByteArray) (i j : Nat) (h : i + j < s.size) : bt (s.extract i s.size) (j : Int) = bt s ((i + j : Nat) : Int) := by
  unfold bt
  have hsz : (s.extract i s.size).size = s.size - i := by rw [ByteArray.size_extract]; omega
  rw [dif_pos (by rw [hsz]; omega), dif_pos (by omega)]
  simp only [ByteArray.getElem_extract, Int.toNat_natCast]
theorem hexd_ascii (n : Int) (h0 : 0 ≤ n) (h1 : n < 16) : hexd n < 128 := by unfold hexd; split <;> omega
theorem shownL_ascii (c : Int) (h0 : 0 ≤ c) (h1 : c ≤ 255) : ∀ x ∈ shownL c, x < 128 := by
  unfold shownL
  have a := hexd_ascii (c / 16) (by omega) (by omega)
  have b := hexd_ascii (c % 16) (by omega) (by omega)
  intro x hx
  split at hx
  · simp at hx; omega
  · split at hx
    · simp at hx; omega
    · simp at hx; omega
theorem chk_facts (u : ByteArray) (c : Int) (n : Nat) (h0 : 0 ≤ c) (h1 : c ≤ 255) (hn : 1 ≤ n) (hu : n ≤ u.size) : 0 ≤ (chk u c n).1 ∧ (chk u c n).1 ≤ 255 ∧ ((chk u c n).2 = 0 ∨ ((chk u c n).2 = (n : Int) ∧ (chk u c n).1 = c ∧ strOfNums (shownL c) = u.extract 0 n ∧ ∀ j : Nat, j < n → bt u (j : Int) < 128)) := by
  unfold chk
  by_cases hq : bt u 0 = 34
  · rw [if_pos hq]; simp
  · rw [if_neg hq]
    by_cases hh : ((strOfNums (shownL c)).toList == (u.extract 0 n).toList) = true
    · rw [if_pos hh]
      have e := eq_of_toList hh
      refine ⟨h0, h1, .inr ⟨rfl, rfl, e, fun j hj => ?_⟩⟩
      have hsz : (shownL c).length = n := by
        have := congrArg ByteArray.size e
        rw [strOfNums_size, ByteArray.size_extract] at this
        omega
      rw [← bt_extract0 u n j hu hj, ← e, bt_strOfNums _ (shownL_range c h0 h1) j (by omega)]
      exact shownL_ascii c h0 h1 _ (List.getElem_mem _)
    · rw [if_neg hh]; simp
theorem thing_facts (u : ByteArray) (hu : 0 < u.size) : 0 ≤ (thingF u).1 ∧ (thingF u).1 ≤ 255 ∧ ((thingF u).2 = 0 ∨ (1 ≤ (thingF u).2 ∧ (thingF u).2 ≤ u.size ∧ ∀ j : Nat, (j : Int) < (thingF u).2 → bt u (j : Int) < 128)) := by
  have key : ∀ c n, 0 ≤ c → c ≤ 255 → 1 ≤ n → n ≤ u.size → thingF u = chk u c n → 0 ≤ (thingF u).1 ∧ (thingF u).1 ≤ 255 ∧ ((thingF u).2 = 0 ∨ (1 ≤ (thingF u).2 ∧ (thingF u).2 ≤ u.size ∧ ∀ j : Nat, (j : Int) < (thingF u).2 → bt u (j : Int) < 128)) := by
    intro c n h0 h1 hn hnu e
    rw [e]
    obtain ⟨a, b, h⟩ := chk_facts u c n h0 h1 hn hnu
    refine ⟨a, b, ?_⟩
    rcases h with h | ⟨h, _, _, hj⟩
    · exact .inl h
    · rw [h]; exact .inr ⟨by omega, by omega, fun j hj2 => hj j (by omega)⟩
  by_cases h4 : pX u = true ∧ 4 ≤ u.size
  · have hl : longOf u = 4 := by unfold longOf; rw [if_pos h4]
    by_cases hg : hexv (bt u 2) < 16 ∧ hexv (bt u 3) < 16
    · have a := hexv_ge (bt u 2) (bt_range u 2).1
      have b := hexv_ge (bt u 3) (bt_range u 3).1
      exact key (hexv (bt u 2) * 16 + hexv (bt u 3)) 4 (by omega) (by omega) (by omega) h4.2 (by unfold thingF; rw [if_pos hl, if_pos hg])
    · have e : thingF u = (0, 0) := by unfold thingF; rw [if_pos hl, if_neg hg]
      rw [e]; simp
  · by_cases h2 : bt u 0 = 92 ∧ 2 ≤ u.size
    · have hl : longOf u = 2 := by unfold longOf; rw [if_neg h4, if_pos h2]
      exact key (bt u 1) 2 (bt_range u 1).1 (bt_range u 1).2 (by omega) h2.2 (by unfold thingF; rw [hl, if_neg (by omega)]; rfl)
    · have hl : longOf u = 1 := by unfold longOf; rw [if_neg h4, if_neg h2]
      exact key (bt u 0) 1 (bt_range u 0).1 (bt_range u 0).2 (by omega) (by omega) (by unfold thingF; rw [hl, if_neg (by omega)]; rfl)
theorem decode_facts (s : ByteArray) (pos : Nat) (h : pos < s.size) : (bt s (pos : Int) < 128 → Utf8.decode s pos = ((bt s (pos : Int)).toNat, 1)) ∧ (128 ≤ bt s (pos : Int) → 128 ≤ (Utf8.decode s pos).1) := by
  have e : bt s (pos : Int) = ((s[pos]'h).toNat : Int) := (bt_at s (pos : Int) (by simpa using h)).symm.trans (by simp)
  rw [e]
  refine ⟨fun ha => ?_, fun ha => (decode_high s pos h (by omega)).1⟩
  rw [decode_ascii s pos h (by omega)]
  simp
theorem R_iter {W : World} {base it : Nat} {v : Value} {xs : List Int} (s : ByteArray) (p : Nat) (h : (Kd.int .u8).R 5 W base (fun q => q ≠ it) v xs) : (Kd.int .u8).R 5 (W.iterAt it s p) base (fun q => q ≠ it) v xs := Kd.R_step h (fun k ho _ => Lib.iterAt_other W it k s p ho)
theorem VarsOk.below2 {w w' : World} {B : Nat} (h : VarsOk w) (hb : Below w.heap.size w w') : VarsOk w' := h.below hb
set_option maxHeartbeats 8000000 in
set_option maxRecDepth 100000 in
theorem Plain.good (s : ByteArray) (R : ByteArray × Int × Int) (w : World) (hp : Lib.hasPrefix s.data.toList [34] = true) (h1 : 1 ≤ s.size) (hb0 : bt s 0 < 128) (hsz : s.size ≤ 140737488351232) (hV : VarsOk w) (hR : plainP s s.size 1 [] = R) : Calls Tryd.prog 11 #[.string s] w fun e w' => e = .returned (.tuple #[.string R.1, .int .i64 R.2.1, .int .i64 R.2.2]) ∧ Below w.heap.size w w' := by
  have HB := Aside0.mk (Below.refl w.heap.size w)
  have HS := Aside0.mk hsz
  have HV := Aside0.mk hV
  have HR := Aside0.mk hR
  have HB0 := Aside0.mk hb0
  have H1 := Aside0.mk h1
  have hu9 := run_underlying (P := Tryd.prog) Tryd.underlying9
  clear hsz hV hR hb0 h1
  go_enter Tryd.func11, Tryd.ntmps11
  go_wp2_with (go_at_call 28; refine (Tryd.strings_HasPrefix s _ _).mono ?_; rintro e wh ⟨rfl, hw⟩; have hw2 := hw.symm; subst hw2)
  obtain ⟨it, hit⟩ : ∃ it, w.heap.size = it := ⟨_, rfl⟩
  have hi0 : (w.iter s 0).heap[it]? = some (.stringIter s 0) := by rw [← hit]; exact World.iter_heap w s 0
  have hb1 : Below it w (w.iter s 0) := by rw [← hit]; exact (Below.refl _ w).alloc (Nat.le_refl _) _
  have HI := Aside0.mk hi0
  have HIT := Aside0.mk hit
  have HB1 := Aside0.mk hb1
  rw [hit]
  clear hit hi0 hb1 HB
  go_loopg [5, 6] (s.size + 1) (fun kq v5 v6 wr => ∃ (acc : List Int) (nx pos f : Nat), v6 = .int .i64 (nx : Int) ∧ Aside0 (pos ≤ nx ∧ nx ≤ s.size ∧ s.size + 1 ≤ pos + kq) ∧ Aside0 (s.size - nx ≤ f ∧ plainP s f nx acc = R) ∧ Aside0 (∀ j : Nat, j < nx → bt s (j : Int) < 128) ∧ Aside0 (acc.length ≤ nx) ∧ Aside0 ((Kd.int .u8).R 5 wr w.heap.size (fun q => q ≠ it) v5 acc) ∧ Aside0 (wr.heap[it]? = some (.stringIter s pos)) ∧ Aside0 (Below w.heap.size w wr))
  case atStart =>
    refine ⟨[], 1, 0, s.size, rfl, Aside0.mk ⟨by omega, H1.out, by omega⟩, Aside0.mk ⟨by omega, HR.out⟩, Aside0.mk ?_, Aside0.mk (by simp), Aside0.mk (Kd.R_nil _ _ _ _ _), HI, Aside0.mk (by have := HB1.out; rw [← HIT.out] at this; exact this)⟩
    intro j hj
    obtain rfl : j = 0 := by omega
    exact HB0.out
  case round =>
    clear HI HB1 HR
    obtain ⟨acc, nx, pos, f, rfl, AX, HP, HA, HAL, HO, HI, HB⟩ := hrel
    have HITL := Aside0.mk (show it < wr.heap.size from blk_lt HI.out)
    have HITG := Aside0.mk (show w.heap.size ≤ it from Nat.le_of_eq HIT.out)
    by_cases hA : pos < nx
    · have hps : pos < s.size := by have := AX.out; omega
      have hd := (decode_facts s pos hps).1 (HA.out pos hA)
      have hnx : ∀ ty, (Instr.next (.pointer (some ⟨it, 0, none⟩)) true ty).run Tryd.prog wr = .ok (.tuple #[.bool true, .int .i64 pos, .int .i32 ((bt s (pos : Int)).toNat : Int)]) (wr.iterAt it s (pos + 1)) := fun ty => by
        have h := Lib.run_next_any_at (P := Tryd.prog) wr it s pos ty HI.out hps
        rw [hd] at h
        exact h
      have b1 : decide ((pos : Int) < (nx : Int)) = true := decide_eq_true (by omega)
      have b2 : decide (pos < nx) = true := decide_eq_true hA
      have HPA := Aside0.mk hA
      clear hA hd hps
      go_wp2
      go_roundg (gk - 1)
      case measure => have := AX.out; have := HPA.out; omega
      case rel =>
        have h1 := AX.out
        have h2 := HPA.out
        exact ⟨acc, nx, pos + 1, f, rfl, Aside0.mk ⟨by omega, h1.2.1, by omega⟩, HP, HA, HAL, Aside0.mk (R_iter s (pos + 1) HO.out), Aside0.mk (Lib.iterAt_heap wr it s pos (pos + 1) HI.out), Aside0.mk (Lib.below_iterAt HB.out HITG.out s (pos + 1))⟩
    obtain rfl : pos = nx := by have := AX.out; omega
    have b1 : decide ((pos : Int) < (pos : Int)) = false := decide_eq_false (by omega)
    have b2 : decide (pos < pos) = false := decide_eq_false (by omega)
    by_cases hps : pos < s.size
    · have hdf := decode_facts s pos hps
      have hsuf : 0 < (s.extract pos s.size).size := by rw [ByteArray.size_extract]; omega
      have hbf : bt (s.extract pos s.size) 0 = bt s (pos : Int) := bt_from s pos 0 (by omega)
      by_cases hq : bt s (pos : Int) = 34
      · have HFIN := Aside0.mk (show finP s pos acc = R by
          have hp := HP.out
          obtain ⟨f, rfl⟩ : ∃ m, f = m + 1 := ⟨f - 1, by omega⟩
          have h := hp.2
          unfold plainP at h
          rw [if_pos hps, if_pos hq] at h
          exact h)
        have hd := hdf.1 (by omega)
        have hnx : ∀ ty, (Instr.next (.pointer (some ⟨it, 0, none⟩)) true ty).run Tryd.prog wr = .ok (.tuple #[.bool true, .int .i64 pos, .int .i32 34]) (wr.iterAt it s (pos + 1)) := fun ty => by
          have h := Lib.run_next_any_at (P := Tryd.prog) wr it s pos ty HI.out hps
          rw [hd, hq] at h
          exact h
        have HO9 := Aside0.mk (R_iter s (pos + 1) HO.out)
        have HB9 := Aside0.mk (Lib.below_iterAt HB.out HITG.out s (pos + 1))
        have HNX := Aside0.mk (show pos ≤ s.size by omega)
        obtain ⟨w9, hw9⟩ : ∃ w9, wr.iterAt it s (pos + 1) = w9 := ⟨_, rfl⟩
        rw [hw9] at HO9 HB9 hnx
        clear HO HB HI hdf hsuf hbf hq hps hd hw9
        have HO := HO9
        have HB := HB9
        clear HO9 HB9
        have hcv : (convert 23 9 u5).run Tryd.prog w9 = .ok (.string (strOfNums acc)) w9 := own_string Tryd.underlying23 Tryd.underlying5 Tryd.underlying9 (Kd.own_of_R HO.out)
        have HCV2 := Aside0.mk (show ∀ n, (convert 23 9 u5).run Tryd.prog (w9.drewN n) = .ok (.string (strOfNums acc)) (w9.drewN n) from fun n => own_string Tryd.underlying23 Tryd.underlying5 Tryd.underlying9 (Kd.own_of_R (Kd.R_drewN HO.out n)))
        by_cases hf1 : pos = s.size
        · have g1 : (((pos : Nat) : Int) == (s.size : Int)) = true := beq_iff_eq.mpr (by omega)
          have HR := Aside0.mk (show R = (⟨#[]⟩, ((pos : Nat) : Int), 6) by rw [← HFIN.out]; unfold finP; rw [if_pos hf1])
          clear hf1 HFIN
          go_wp2
          go_ret3
          exact ⟨by rw [HR.out]; rfl, (by repeat (first | exact HB.out | apply below_alloc | apply pw_below_drewN | apply below_drew1))⟩
        have g1 : (((pos : Nat) : Int) == (s.size : Int)) = false := by simp; omega
        have G2 := Aside0.mk (show wrap64 (((pos : Nat) : Int) + 1) = ((pos + 1 : Nat) : Int) by have := HS.out; have := HNX.out; unfold wrap64; omega)
        by_cases hf2 : pos + 1 < s.size
        · have g3 : decide (wrap64 (((pos : Nat) : Int) + 1) < (s.size : Int)) = true := decide_eq_true (by rw [G2.out]; omega)
          have HR := Aside0.mk (show R = (⟨#[]⟩, wrap64 (((pos : Nat) : Int) + 1), 6) by rw [← HFIN.out, G2.out]; unfold finP; rw [if_neg hf1, if_pos hf2])
          clear hf1 hf2 HFIN
          go_wp2
          go_ret3
          exact ⟨by rw [HR.out]; rfl, (by repeat (first | exact HB.out | apply below_alloc | apply pw_below_drewN | apply below_drew1))⟩
        have g3 : decide (wrap64 (((pos : Nat) : Int) + 1) < (s.size : Int)) = false := decide_eq_false (by rw [G2.out]; omega)
        by_cases hf3 : 1 ≤ acc.length ∧ acc.length ≤ 24
        · have HC := Aside0.mk (show name_Check.f (strOfNums acc) = some 0 by unfold name_Check.f; rw [strOfNums_size, if_neg (by omega), if_neg (by omega)])
          have HR := Aside0.mk (show R = (strOfNums acc, 0, 0) by rw [← HFIN.out]; unfold finP; rw [if_neg hf1, if_neg hf2, if_pos hf3])
          clear hf1 hf2 hf3 HFIN
          go_wp2_with (first | (go_at_call 18; (with_reducible refine (name_Check.calls (strOfNums acc) 0 _ HC.out).mono ?_); rintro e wc ⟨rfl, ⟨nd, rfl⟩⟩; have hcv2 := HCV2.out nd))
          go_ret3
          exact ⟨by rw [HR.out]; rfl, (by repeat (first | exact HB.out | apply below_alloc | apply pw_below_drewN | apply below_drew1))⟩
        have HC := Aside0.mk (show name_Check.f (strOfNums acc) = some 6 from check_bad _ (by rw [strOfNums_size]; exact hf3))
        have HR := Aside0.mk (show R = (⟨#[]⟩, 0, 6) by rw [← HFIN.out]; unfold finP; rw [if_neg hf1, if_neg hf2, if_neg hf3])
        clear hf1 hf2 hf3 HFIN
        go_wp2_with (first | (go_at_call 18; (with_reducible refine (name_Check.calls (strOfNums acc) 6 _ HC.out).mono ?_); rintro e wc ⟨rfl, ⟨nd, rfl⟩⟩; have hcv2 := HCV2.out nd))
        go_ret3
        exact ⟨by rw [HR.out]; rfl, (by repeat (first | exact HB.out | apply below_alloc | apply pw_below_drewN | apply below_drew1))⟩
      · have HBQ := Aside0.mk hq
        obtain ⟨r, hr⟩ : ∃ r : Nat, (Utf8.decode s pos).1 = r := ⟨_, rfl⟩
        obtain ⟨dd, hdd⟩ : ∃ dd : Nat, (Utf8.decode s pos).2 = dd := ⟨_, rfl⟩
        have hr34 : ((r : Int) == 34) = false := by
          simp
          rcases Int.lt_or_le (bt s (pos : Int)) 128 with h | h
          · have := hdf.1 h
            rw [← hr, this]
            have := bt_range s (pos : Int)
            simp
            omega
          · have := hdf.2 h
            omega
        have hnx : ∀ ty, (Instr.next (.pointer (some ⟨it, 0, none⟩)) true ty).run Tryd.prog wr = .ok (.tuple #[.bool true, .int .i64 pos, .int .i32 (r : Int)]) (wr.iterAt it s (pos + dd)) := fun ty => by
          have h := Lib.run_next_any_at (P := Tryd.prog) wr it s pos ty HI.out hps
          rw [hr, hdd] at h
          exact h
        have HO9 := Aside0.mk (R_iter s (pos + dd) HO.out)
        have HB9 := Aside0.mk (Lib.below_iterAt HB.out HITG.out s (pos + dd))
        have HI9 := Aside0.mk (Lib.iterAt_heap wr it s pos (pos + dd) HI.out)
        obtain ⟨w9, hw9⟩ : ∃ w9, wr.iterAt it s (pos + dd) = w9 := ⟨_, rfl⟩
        rw [hw9] at HO9 HB9 HI9 hnx
        clear HO HB HI hw9
        have HO := HO9
        have HB := HB9
        have HI := HI9
        clear HO9 HB9 HI9
        have htf := thing_facts (s.extract pos s.size) hsuf
        obtain ⟨t1, ht1⟩ : ∃ t1, (thingF (s.extract pos s.size)).1 = t1 := ⟨_, rfl⟩
        obtain ⟨t2, ht2⟩ : ∃ t2, (thingF (s.extract pos s.size)).2 = t2 := ⟨_, rfl⟩
        rw [ht1, ht2] at htf
        have HT1 := Aside0.mk ht1
        have HT2 := Aside0.mk ht2
        have HSUF := Aside0.mk hsuf
        have hle : (pos : Int) ≤ (s.size : Int) := by omega
        by_cases hz : t2 = 0
        · subst hz
          have HR := Aside0.mk (show R = (⟨#[]⟩, (pos : Int), 6) by
            have hp := HP.out
            obtain ⟨f, rfl⟩ : ∃ m, f = m + 1 := ⟨f - 1, by omega⟩
            have h := hp.2
            unfold plainP at h
            rw [if_pos hps, if_neg hq, if_pos ht2] at h
            exact h.symm)
          clear hdf hsuf hbf hq hps htf ht1 ht2 hr hdd
          go_wp2_with (first | (go_at_call 29; refine (thing.walk (s.extract pos s.size) _ HSUF.out (HV.out.below HB.out)).mono ?_; rw [HT1.out, HT2.out]; rintro e w6 ⟨rfl, hb⟩; have n_ := Aside0.mk (below_step HB.out hb); clear HB hb; have HB := n_; clear n_))
          go_ret3
          exact ⟨by rw [HR.out]; rfl, HB.out⟩
        · have htt : 1 ≤ t2 ∧ t2 ≤ (s.extract pos s.size).size ∧ ∀ j : Nat, (j : Int) < t2 → bt (s.extract pos s.size) (j : Int) < 128 := by
            rcases htf.2.2 with h | h
            · exact absurd h hz
            · exact h
          have hsz2 : (s.extract pos s.size).size = s.size - pos := by rw [ByteArray.size_extract]; omega
          have hd1 : dd = 1 := by
            have h0 := htt.2.2 0 (by omega)
            rw [show ((0 : Nat) : Int) = 0 from rfl, hbf] at h0
            have := hdf.1 h0
            rw [← hdd, this]
          have hz0 : (t2 == 0) = false := by simpa using hz
          have HWR := Aside0.mk (show wrap64 ((pos : Int) + t2) = ((pos + t2.toNat : Nat) : Int) by have := HS.out; unfold wrap64; omega)
          have HT := Aside0.mk htt
          have HSZ2 := Aside0.mk hsz2
          have HD1 := Aside0.mk hd1
          have HPS := Aside0.mk hps
          have HZ := Aside0.mk hz
          clear hdf hsuf hbf hq hps htf ht1 ht2 hr hdd htt hsz2 hd1 hz
          go_wp2_with (first | (go_at_call 29; refine (thing.walk (s.extract pos s.size) _ HSUF.out (HV.out.below HB.out)).mono ?_; rw [HT1.out, HT2.out]; rintro e w6 ⟨rfl, hb⟩; have n_ := Aside0.mk (below_step HB.out hb); have m_ := Aside0.mk (Kd.R_below HO.out hb); have o_ := Aside0.mk ((hb.block it (blk_lt HI.out)).trans HI.out); clear HB HO HI hb; have HB := n_; have HO := m_; have HI := o_; clear n_ m_ o_) | ((with_reducible refine gate_builtin (b := .append) (xs := #[.tmp 35, .tmp 37]) rfl ?_); at_builtin; refine Kd.R_append (Kd.int .u8) (w0 := w) w.heap.size rfl (.tmp 35) (.tmp 37) 23 5 (.int .u8 0) 1 rfl Tryd.underlying23 infoU8 rfl (by decide) (by omega) _ acc t1 [.int .u8 t1] (fun q => q ≠ it) (fun _ => False) rfl rfl rfl (fun _ hk => hk.elim) (fun k hk => by have := blk_lt HI.out; omega) HO.out HB.out HB.out.size (by have := HAL.out; have := HS.out; have := AX.out; omega) ?_; intro v7 w7 ho hb hg hat; have o_ := Aside0.mk ((hg.block it (blk_lt HI.out) (fun e => (HO.out.1 it e.symm) rfl)).trans HI.out); clear HB HO HI; have HB := Aside0.mk hb; have HO := Aside0.mk ho; have HI := o_; clear ho hb hg hat o_))
          go_roundg (gk - 1)
          case measure => have := AX.out; have := HPS.out; omega
          case rel =>
            have h1 := AX.out
            have h2 := HPS.out
            have h3 := HT.out
            have h4 := HSZ2.out
            refine ⟨acc ++ [t1], pos + t2.toNat, pos + 1, f - 1, by rw [HWR.out], Aside0.mk ⟨by omega, by omega, by omega⟩, Aside0.mk ⟨by have := HP.out; omega, ?_⟩, Aside0.mk ?_, Aside0.mk (by have := HAL.out; simp; omega), HO, Aside0.mk (by have := HI.out; rwa [HD1.out] at this), HB⟩
            · have hp := HP.out
              obtain ⟨f, rfl⟩ : ∃ m, f = m + 1 := ⟨f - 1, by omega⟩
              have h := hp.2
              unfold plainP at h
              rw [if_pos h2, if_neg HBQ.out, HT2.out, if_neg HZ.out, HT1.out] at h
              exact h
            · intro j hj
              rcases (by omega : j < pos ∨ pos ≤ j) with hj2 | hj2
              · exact HA.out j hj2
              · have := h3.2.2 (j - pos) (by omega)
                rw [bt_from s pos (j - pos) (by omega), show pos + (j - pos) = j by omega] at this
                exact this
    · have hnx : ∀ ty, (Instr.next (.pointer (some ⟨it, 0, none⟩)) true ty).run Tryd.prog wr = .ok (.tuple #[.bool false]) wr := fun ty => Lib.run_next_end_at (P := Tryd.prog) wr it s pos ty HI.out hps
      have HNX := Aside0.mk (show pos ≤ s.size from AX.out.2.1)
      have HFIN := Aside0.mk (show finP s pos acc = R by
        have hp := HP.out.2
        cases f with
        | zero => exact hp
        | succ f =>
          unfold plainP at hp
          rw [if_neg hps] at hp
          exact hp)
      have hcv : (convert 23 9 u5).run Tryd.prog wr = .ok (.string (strOfNums acc)) wr := own_string Tryd.underlying23 Tryd.underlying5 Tryd.underlying9 (Kd.own_of_R HO.out)
      have HCV2 := Aside0.mk (show ∀ n, (convert 23 9 u5).run Tryd.prog (wr.drewN n) = .ok (.string (strOfNums acc)) (wr.drewN n) from fun n => own_string Tryd.underlying23 Tryd.underlying5 Tryd.underlying9 (Kd.own_of_R (Kd.R_drewN HO.out n)))
      clear hps
      by_cases hf1 : pos = s.size
      · have g1 : (((pos : Nat) : Int) == (s.size : Int)) = true := beq_iff_eq.mpr (by omega)
        have HR := Aside0.mk (show R = (⟨#[]⟩, ((pos : Nat) : Int), 6) by rw [← HFIN.out]; unfold finP; rw [if_pos hf1])
        clear hf1 HFIN
        go_wp2
        go_ret3
        exact ⟨by rw [HR.out]; rfl, (by repeat (first | exact HB.out | apply below_alloc | apply pw_below_drewN | apply below_drew1))⟩
      have g1 : (((pos : Nat) : Int) == (s.size : Int)) = false := by simp; omega
      have G2 := Aside0.mk (show wrap64 (((pos : Nat) : Int) + 1) = ((pos + 1 : Nat) : Int) by have := HS.out; have := HNX.out; unfold wrap64; omega)
      by_cases hf2 : pos + 1 < s.size
      · have g3 : decide (wrap64 (((pos : Nat) : Int) + 1) < (s.size : Int)) = true := decide_eq_true (by rw [G2.out]; omega)
        have HR := Aside0.mk (show R = (⟨#[]⟩, wrap64 (((pos : Nat) : Int) + 1), 6) by rw [← HFIN.out, G2.out]; unfold finP; rw [if_neg hf1, if_pos hf2])
        clear hf1 hf2 HFIN
        go_wp2
        go_ret3
        exact ⟨by rw [HR.out]; rfl, (by repeat (first | exact HB.out | apply below_alloc | apply pw_below_drewN | apply below_drew1))⟩
      have g3 : decide (wrap64 (((pos : Nat) : Int) + 1) < (s.size : Int)) = false := decide_eq_false (by rw [G2.out]; omega)
      by_cases hf3 : 1 ≤ acc.length ∧ acc.length ≤ 24
      · have HC := Aside0.mk (show name_Check.f (strOfNums acc) = some 0 by unfold name_Check.f; rw [strOfNums_size, if_neg (by omega), if_neg (by omega)])
        have HR := Aside0.mk (show R = (strOfNums acc, 0, 0) by rw [← HFIN.out]; unfold finP; rw [if_neg hf1, if_neg hf2, if_pos hf3])
        clear hf1 hf2 hf3 HFIN
        go_wp2_with (first | (go_at_call 18; (with_reducible refine (name_Check.calls (strOfNums acc) 0 _ HC.out).mono ?_); rintro e wc ⟨rfl, ⟨nd, rfl⟩⟩; have hcv2 := HCV2.out nd))
        go_ret3
        exact ⟨by rw [HR.out]; rfl, (by repeat (first | exact HB.out | apply below_alloc | apply pw_below_drewN | apply below_drew1))⟩
      have HC := Aside0.mk (show name_Check.f (strOfNums acc) = some 6 from check_bad _ (by rw [strOfNums_size]; exact hf3))
      have HR := Aside0.mk (show R = (⟨#[]⟩, 0, 6) by rw [← HFIN.out]; unfold finP; rw [if_neg hf1, if_neg hf2, if_neg hf3])
      clear hf1 hf2 hf3 HFIN
      go_wp2_with (first | (go_at_call 18; (with_reducible refine (name_Check.calls (strOfNums acc) 6 _ HC.out).mono ?_); rintro e wc ⟨rfl, ⟨nd, rfl⟩⟩; have hcv2 := HCV2.out nd))
      go_ret3
      exact ⟨by rw [HR.out]; rfl, (by repeat (first | exact HB.out | apply below_alloc | apply pw_below_drewN | apply below_drew1))⟩
end Go.Proofs.YtmhfgcmgeglmhaaDoor.P

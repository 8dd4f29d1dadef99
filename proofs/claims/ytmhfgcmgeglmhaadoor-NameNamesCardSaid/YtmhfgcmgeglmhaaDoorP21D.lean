import Derived.Test.YtmhfgcmgeglmhaaDoorP21C
namespace Go.Proofs.YtmhfgcmgeglmhaaDoor.P
open Go.RowKit Go.Proofs.YtmhfgcmgeglmhaaDoorW.PrintWords Go.Proofs.YtmhfgcmgeglmhaaDoorW.PrintLast Go.Proofs.YtmhfgcmgeglmhaaDoorW.PrintMore
attribute [local go_sem] max2_int min2_int max_two min_two max_three min_three max_four min_four
set_option linter.unusedVariables false
set_option linter.unusedSimpArgs false
/-- What a byte is worth as a sixteens' figure, or too much. -/
def hexv (c : Int) : Int := if 48 ≤ c ∧ c ≤ 57 then c - 48 else if 97 ≤ bits BinOp.or IntKind.u8 c 32 ∧ bits BinOp.or IntKind.u8 c 32 ≤ 122 then bits BinOp.or IntKind.u8 c 32 - 87 else 99
theorem or32_range (c : Int) (h0 : 0 ≤ c) (h1 : c ≤ 255) : 0 ≤ bits BinOp.or IntKind.u8 c 32 ∧ bits BinOp.or IntKind.u8 c 32 ≤ 255 := by
  have h : ∀ n : Fin 256, 0 ≤ bits BinOp.or IntKind.u8 (n.val : Int) 32 ∧ bits BinOp.or IntKind.u8 (n.val : Int) 32 ≤ 255 := by
    set_option maxRecDepth 100000 in decide
  have := h ⟨c.toNat, by omega⟩
  simpa [show ((c.toNat : Nat) : Int) = c by omega] using this
theorem or95 : bits BinOp.or IntKind.u8 95 32 = 127 := by decide
theorem lower.walk (c r : Int) (w : World) (h : bits BinOp.or IntKind.u8 c 32 = r) : Calls Tryd.prog 55 #[.int .u8 c] w fun e w' => e = .returned (.int .u8 r) ∧ Drawn0 w w' := strconv_lower.calls c r w (by unfold strconv_lower.f; rw [h])
theorem not_empty (s : ByteArray) (h : 0 < s.size) : s.toList.isEmpty = false := by
  rw [ByteArray.toList_eq]
  cases hd : s.data.toList with
  | nil =>
    have := data_length s
    rw [hd] at this
    simp at this
    omega
  | cons a l => rfl
/-- What ParseUint answers two bytes. -/
def pu (b0 b1 : Int) : Value := if hexv b0 < 16 ∧ hexv b1 < 16 then .tuple #[.int .u64 (hexv b0 * 16 + hexv b1), .nilIface] else .tuple #[.int .u64 0, .iface 79 (.int .i64 2)]
theorem hexv_ge (c : Int) (h : 0 ≤ c) : 0 ≤ hexv c := by
  unfold hexv
  split
  · omega
  · split <;> omega
theorem pu_bad {s : ByteArray} {k : Nat} {c : Int} (hk : k < 2) (hc : bt s (k : Int) = c) (hv : ¬ hexv c < 16) : (Ending.returned (.tuple #[.int .u64 0, .iface 79 (.int .i64 2)]) : Ending) = .returned (pu (bt s 0) (bt s 1)) := by
  unfold pu
  rw [if_neg]
  intro h
  rcases (by omega : k = 0 ∨ k = 1) with rfl | rfl
  · exact hv (hc ▸ h.1)
  · exact hv (hc ▸ h.2)
def hvn (b0 b1 : Int) (k : Nat) : Int := if k = 0 then 0 else if k = 1 then hexv b0 else hexv b0 * 16 + hexv b1
theorem hvn_step {s : ByteArray} {k : Nat} {n c d m : Int} (hn : n = hvn (bt s 0) (bt s 1) k) (hc : bt s (k : Int) = c) (hd : hexv c = d) (hm : n * 16 + d = m) (hk : k < 2) : m = hvn (bt s 0) (bt s 1) (k + 1) := by
  rcases (by omega : k = 0 ∨ k = 1) with rfl | rfl
  · simp [hvn] at hn ⊢
    rw [show bt s 0 = c from hc, hd]
    omega
  · simp [hvn] at hn ⊢
    rw [show bt s 1 = c from hc, hd, ← hn]
    omega
set_option maxHeartbeats 8000000 in
set_option maxRecDepth 100000 in
theorem ParseUint2 (s : ByteArray) (w : World) (hs : s.size = 2) : Calls Tryd.prog 48 #[.string s, .int .i64 16, .int .i64 8] w fun e w' => e = .returned (pu (bt s 0) (bt s 1)) ∧ Below w.heap.size w w' := by
  have HB := Aside0.mk (Below.refl w.heap.size w)
  have HS := Aside0.mk hs
  have hE : s.toList.isEmpty = false := not_empty s (by omega)
  clear hs
  go_enter Tryd.func48, Tryd.ntmps48
  go_wp2_with (refine conv_q 99 rfl rfl rfl Tryd.underlying9 Tryd.underlying23 Tryd.underlying5 s rfl (by have := HS.out; omega) ?_; intro ad cap w4 hrow hsz hb; have HROW := Aside0.mk hrow; have HSZ4 := Aside0.mk hsz; have n_ := Aside0.mk (below_step HB.out hb); clear HB; have HB := n_; clear n_ hb hsz hrow)
  go_loopg [12, 13, 101] 2 (fun kq v12 v13 v101 wr => ∃ (k : Nat) (n : Int), v12 = .bool false ∧ v13 = .int .u64 n ∧ v101 = .int .i64 (k : Int) ∧ Aside0 (k ≤ 2 ∧ 2 - k ≤ kq) ∧ Aside0 (n = hvn (bt s 0) (bt s 1) k) ∧ Aside0 (∀ j : Nat, j < k → hexv (bt s j) < 16) ∧ Aside0 (wr.heap[w.heap.size]? = w4.heap[w.heap.size]?) ∧ Aside0 (w4.heap.size ≤ wr.heap.size) ∧ Aside0 (Below w.heap.size w wr))
  case atStart => exact ⟨0, 0, rfl, rfl, rfl, Aside0.mk ⟨by omega, by omega⟩, Aside0.mk rfl, Aside0.mk (fun j hj => by omega), Aside0.mk rfl, Aside0.mk (Nat.le_refl _), HB⟩
  case round =>
    clear HB
    obtain ⟨k, n, rfl, rfl, rfl, AX, HN, HG, HR, HZ, HB⟩ := hrel
    by_cases hlt : k < 2
    · have hx := HROW.out wr HR.out k (by have := HS.out; omega)
      have b1 : decide ((k : Int) < (s.size : Int)) = true := decide_eq_true (by have := HS.out; omega)
      have b2 : decide (k < s.size) = true := decide_eq_true (by have := HS.out; omega)
      have b3 : (k < s.size) = True := eq_true (by have := HS.out; omega)
      have HK := Aside0.mk hlt
      obtain ⟨c, hc⟩ : ∃ c, bt s (k : Int) = c := ⟨_, rfl⟩
      have HCC := Aside0.mk hc
      have hrg : 0 ≤ c ∧ c ≤ 255 := by rw [← hc]; exact bt_range s k
      have HRG := Aside0.mk hrg
      have HNB := Aside0.mk (show 0 ≤ n ∧ n ≤ 15 by
        have hn := HN.out
        have hg := HG.out 0
        have h0 := hexv_ge (bt s 0) (bt_range s 0).1
        rcases (by omega : k = 0 ∨ k = 1) with rfl | rfl
        · simp [hvn] at hn; omega
        · simp [hvn] at hn hg; omega)
      rw [hc] at hx
      obtain ⟨lo, hlo⟩ : ∃ lo, bits BinOp.or IntKind.u8 c 32 = lo := ⟨_, rfl⟩
      have HLO := Aside0.mk hlo
      have HLR := Aside0.mk (show 0 ≤ lo ∧ lo ≤ 255 by rw [← hlo]; exact or32_range c hrg.1 hrg.2)
      clear hlt hc
      have u1 : decide (n ≥ 1152921504606846976) = false := decide_eq_false (by have := HNB.out; omega)
      have u2 : IntKind.u64.wrap (n * 16) = n * 16 := by have := HNB.out; rw [IntKind.wrap_u64]; omega
      by_cases hd : 48 ≤ c ∧ c ≤ 57
      · have d0 : (c == 95) = false := by simp; omega
        have d1 : decide (48 ≤ c) = true := decide_eq_true hd.1
        have d2 : decide (c ≤ 57) = true := decide_eq_true hd.2
        obtain ⟨d, hdd⟩ : ∃ d, c - 48 = d := ⟨_, rfl⟩
        obtain ⟨m, hm⟩ : ∃ m, n * 16 + d = m := ⟨_, rfl⟩
        have hdv : hexv c = d := by unfold hexv; rw [if_pos hd]; exact hdd
        have hd16 : d < 16 := by omega
        have hd0 : 0 ≤ d := by omega
        have f2 : (c - 48) % 256 = d := by omega
        have HM := Aside0.mk (show n * 16 + d = m from hm)
        have HDV := Aside0.mk (show hexv c = d from hdv)
        have HD16 := Aside0.mk (show d < 16 from hd16)
        have hnb := HNB.out
        have u3 : IntKind.u64.wrap (n * 16 + d) = m := by rw [IntKind.wrap_u64]; omega
        have u4 : decide (m < n * 16) = false := decide_eq_false (by omega)
        have u5 : decide (m > 255) = false := decide_eq_false (by omega)
        have u6 : decide (d ≥ 16) = false := decide_eq_false (by omega)
        clear hm hdv hd16 hnb
        clear hd hrg hlo hdd hd0
        go_wp2_with (fail)
        go_roundg (gk - 1)
        case measure =>
          have := AX.out
          have := HK.out
          omega
        case rel =>
          have h1 := AX.out
          have h2 := HK.out
          refine ⟨k + 1, m, rfl, rfl, by rw [show wrap64 ((k : Int) + 1) = ((k + 1 : Nat) : Int) by unfold wrap64; omega], Aside0.mk ⟨by omega, by omega⟩, Aside0.mk ?_, Aside0.mk ?_, Aside0.mk HR.out, Aside0.mk HZ.out, Aside0.mk (by repeat (first | exact HB.out | apply below_alloc | apply pw_below_drewN | apply below_drew1))⟩
          · exact hvn_step HN.out HCC.out HDV.out HM.out h2
          · intro j hj
            rcases (by omega : j < k ∨ j = k) with hj | rfl
            · exact HG.out j hj
            · rw [HCC.out, HDV.out]; exact HD16.out
      have d2 : decide (48 ≤ c) = false ∨ (decide (48 ≤ c) = true ∧ decide (c ≤ 57) = false) := by
        rcases (by omega : ¬ 48 ≤ c ∨ (48 ≤ c ∧ ¬ c ≤ 57)) with h | h
        · exact .inl (decide_eq_false h)
        · exact .inr ⟨decide_eq_true h.1, decide_eq_false h.2⟩
      by_cases h95 : c = 95
      · subst h95
        have HV := Aside0.mk (show ¬ hexv 95 < 16 by decide)
        have l1 : decide (97 ≤ lo) = true := decide_eq_true (by rw [← hlo]; decide)
        have l2 : decide (lo ≤ 122) = false := decide_eq_false (by rw [← hlo]; decide)
        clear hd hrg hlo d2
        go_wp2_with (first | (go_at_call 55; (with_reducible refine (lower.walk _ lo _ HLO.out).mono ?_); rintro e wl ⟨rfl, ⟨nd, rfl⟩⟩))
        go_ret2
        exact ⟨pu_bad HK.out HCC.out (by have := HV.out; omega), by repeat (first | exact HB.out | apply below_alloc | apply pw_below_drewN | apply below_drew1)⟩
      have d0 : (c == 95) = false := by simpa using h95
      by_cases hl : 97 ≤ lo ∧ lo ≤ 122
      · have l1 : decide (97 ≤ lo) = true := decide_eq_true hl.1
        have l2 : decide (lo ≤ 122) = true := decide_eq_true hl.2
        obtain ⟨e1, he1⟩ : ∃ e1, lo - 97 = e1 := ⟨_, rfl⟩
        obtain ⟨d, hdd⟩ : ∃ d, e1 + 10 = d := ⟨_, rfl⟩
        have f1 : (lo - 97) % 256 = e1 := by omega
        have f2 : (e1 + 10) % 256 = d := by omega
        have hdv : hexv c = d := by unfold hexv; rw [if_neg hd, hlo, if_pos hl]; omega
        by_cases hd16 : d < 16
        · obtain ⟨m, hm⟩ : ∃ m, n * 16 + d = m := ⟨_, rfl⟩
          have hd0 : 0 ≤ d := by omega
          have HM := Aside0.mk (show n * 16 + d = m from hm)
          have HDV := Aside0.mk (show hexv c = d from hdv)
          have HD16 := Aside0.mk (show d < 16 from hd16)
          have hnb := HNB.out
          have u3 : IntKind.u64.wrap (n * 16 + d) = m := by rw [IntKind.wrap_u64]; omega
          have u4 : decide (m < n * 16) = false := decide_eq_false (by omega)
          have u5 : decide (m > 255) = false := decide_eq_false (by omega)
          have u6 : decide (d ≥ 16) = false := decide_eq_false (by omega)
          clear hm hdv hd16 hnb
          clear hd hl hrg hlo hdd hd0 he1
          rcases d2 with d3 | ⟨d3, d4⟩
          · go_wp2_with (first | (go_at_call 55; (with_reducible refine (lower.walk _ lo _ HLO.out).mono ?_); rintro e wl ⟨rfl, ⟨nd, rfl⟩⟩))
            go_roundg (gk - 1)
            case measure =>
              have := AX.out
              have := HK.out
              omega
            case rel =>
              have h1 := AX.out
              have h2 := HK.out
              refine ⟨k + 1, m, rfl, rfl, by rw [show wrap64 ((k : Int) + 1) = ((k + 1 : Nat) : Int) by unfold wrap64; omega], Aside0.mk ⟨by omega, by omega⟩, Aside0.mk ?_, Aside0.mk ?_, Aside0.mk HR.out, Aside0.mk HZ.out, Aside0.mk (by repeat (first | exact HB.out | apply below_alloc | apply pw_below_drewN | apply below_drew1))⟩
              · exact hvn_step HN.out HCC.out HDV.out HM.out h2
              · intro j hj
                rcases (by omega : j < k ∨ j = k) with hj | rfl
                · exact HG.out j hj
                · rw [HCC.out, HDV.out]; exact HD16.out
          · go_wp2_with (first | (go_at_call 55; (with_reducible refine (lower.walk _ lo _ HLO.out).mono ?_); rintro e wl ⟨rfl, ⟨nd, rfl⟩⟩))
            go_roundg (gk - 1)
            case measure =>
              have := AX.out
              have := HK.out
              omega
            case rel =>
              have h1 := AX.out
              have h2 := HK.out
              refine ⟨k + 1, m, rfl, rfl, by rw [show wrap64 ((k : Int) + 1) = ((k + 1 : Nat) : Int) by unfold wrap64; omega], Aside0.mk ⟨by omega, by omega⟩, Aside0.mk ?_, Aside0.mk ?_, Aside0.mk HR.out, Aside0.mk HZ.out, Aside0.mk (by repeat (first | exact HB.out | apply below_alloc | apply pw_below_drewN | apply below_drew1))⟩
              · exact hvn_step HN.out HCC.out HDV.out HM.out h2
              · intro j hj
                rcases (by omega : j < k ∨ j = k) with hj | rfl
                · exact HG.out j hj
                · rw [HCC.out, HDV.out]; exact HD16.out
        · have u6 : decide (d ≥ 16) = true := decide_eq_true (by omega)
          have HV := Aside0.mk (show ¬ hexv c < 16 by omega)
          clear hd hl hrg hlo hdd he1 hd16 hdv
          rcases d2 with d3 | ⟨d3, d4⟩
          · go_wp2_with (first | (go_at_call 55; (with_reducible refine (lower.walk _ lo _ HLO.out).mono ?_); rintro e wl ⟨rfl, ⟨nd, rfl⟩⟩))
            go_ret2
            exact ⟨pu_bad HK.out HCC.out (by have := HV.out; omega), by repeat (first | exact HB.out | apply below_alloc | apply pw_below_drewN | apply below_drew1)⟩
          · go_wp2_with (first | (go_at_call 55; (with_reducible refine (lower.walk _ lo _ HLO.out).mono ?_); rintro e wl ⟨rfl, ⟨nd, rfl⟩⟩))
            go_ret2
            exact ⟨pu_bad HK.out HCC.out (by have := HV.out; omega), by repeat (first | exact HB.out | apply below_alloc | apply pw_below_drewN | apply below_drew1)⟩
      · have HV := Aside0.mk (show ¬ hexv c < 16 by unfold hexv; rw [if_neg hd, hlo, if_neg hl]; decide)
        have l2 : decide (97 ≤ lo) = false ∨ (decide (97 ≤ lo) = true ∧ decide (lo ≤ 122) = false) := by
          rcases (by omega : ¬ 97 ≤ lo ∨ (97 ≤ lo ∧ ¬ lo ≤ 122)) with h | h
          · exact .inl (decide_eq_false h)
          · exact .inr ⟨decide_eq_true h.1, decide_eq_false h.2⟩
        clear hd hl hrg hlo
        rcases d2 with d3 | ⟨d3, d4⟩
        · rcases l2 with l3 | ⟨l3, l4⟩
          · go_wp2_with (first | (go_at_call 55; (with_reducible refine (lower.walk _ lo _ HLO.out).mono ?_); rintro e wl ⟨rfl, ⟨nd, rfl⟩⟩))
            go_ret2
            exact ⟨pu_bad HK.out HCC.out (by have := HV.out; omega), by repeat (first | exact HB.out | apply below_alloc | apply pw_below_drewN | apply below_drew1)⟩
          · go_wp2_with (first | (go_at_call 55; (with_reducible refine (lower.walk _ lo _ HLO.out).mono ?_); rintro e wl ⟨rfl, ⟨nd, rfl⟩⟩))
            go_ret2
            exact ⟨pu_bad HK.out HCC.out (by have := HV.out; omega), by repeat (first | exact HB.out | apply below_alloc | apply pw_below_drewN | apply below_drew1)⟩
        · rcases l2 with l3 | ⟨l3, l4⟩
          · go_wp2_with (first | (go_at_call 55; (with_reducible refine (lower.walk _ lo _ HLO.out).mono ?_); rintro e wl ⟨rfl, ⟨nd, rfl⟩⟩))
            go_ret2
            exact ⟨pu_bad HK.out HCC.out (by have := HV.out; omega), by repeat (first | exact HB.out | apply below_alloc | apply pw_below_drewN | apply below_drew1)⟩
          · go_wp2_with (first | (go_at_call 55; (with_reducible refine (lower.walk _ lo _ HLO.out).mono ?_); rintro e wl ⟨rfl, ⟨nd, rfl⟩⟩))
            go_ret2
            exact ⟨pu_bad HK.out HCC.out (by have := HV.out; omega), by repeat (first | exact HB.out | apply below_alloc | apply pw_below_drewN | apply below_drew1)⟩
    · have e : k = 2 := by
        have := AX.out
        omega
      subst e
      have b1 : decide (((2 : Nat) : Int) < (s.size : Int)) = false := decide_eq_false (by have := HS.out; omega)
      have b2 : decide (2 < s.size) = false := decide_eq_false (by have := HS.out; omega)
      have b3 : decide ((2 : Int) < (s.size : Int)) = false := decide_eq_false (by have := HS.out; omega)
      have HP := Aside0.mk (show pu (bt s 0) (bt s 1) = .tuple #[.int .u64 n, .nilIface] by
        have h0 := HG.out 0 (by omega)
        have h1 := HG.out 1 (by omega)
        unfold pu
        rw [if_pos ⟨h0, h1⟩, HN.out]
        rfl)
      clear hlt
      go_wp2
      go_ret2
      exact ⟨by rw [HP.out]; rfl, HB.out⟩
end Go.Proofs.YtmhfgcmgeglmhaaDoor.P

import Derived.Test.YtmhfgcmgeglmhaaDoorP21T
import Derived.Test.YtmhfgcmgeglmhaaDoorP0Steps
import Derived.Lib.ConvBytes
namespace Go.Proofs.YtmhfgcmgeglmhaaDoor.P
open Go.RowKit Go.Proofs.YtmhfgcmgeglmhaaDoorW.PrintWords Go.Proofs.YtmhfgcmgeglmhaaDoorW.PrintLast Go.Proofs.YtmhfgcmgeglmhaaDoorW.PrintMore
attribute [local go_sem] max2_int min2_int max_two min_two max_three min_three max_four min_four
set_option linter.unusedVariables false
set_option linter.unusedSimpArgs false
theorem order_ok (a b c : ByteArray) : (lessB a b && lessB b a || ((!lessB a b && !lessB b a) != (a.toList == b.toList)) || (lessB a b && lessB b c && !lessB a c)) = false := by
  have e : (a.toList == b.toList) = decide (toB a = toB b) := by
    rw [ByteArray.toList_eq, ByteArray.toList_eq]
    by_cases h : a.data.toList = b.data.toList
    · rw [decide_eq_true (show toB a = toB b from h)]; simp [h]
    · rw [decide_eq_false (show ¬ toB a = toB b from h)]; simpa using h
  rw [e]
  unfold lessB
  cases h1 : bl (toB a) (toB b) with
  | true =>
    have h2 := bl_asymm h1
    have h3 : ¬ toB a = toB b := fun h => by rw [h, bl_irrefl] at h1; cases h1
    rw [h2, decide_eq_false h3]
    cases h4 : bl (toB b) (toB c) with
    | true => rw [bl_trans _ _ _ h1 h4]; rfl
    | false => rfl
  | false =>
    cases h2 : bl (toB b) (toB a) with
    | true =>
      have h3 : ¬ toB a = toB b := fun h => by rw [h, bl_irrefl] at h2; cases h2
      rw [decide_eq_false h3]
      rfl
    | false =>
      rw [decide_eq_true (bl_tri _ _ h1 h2)]
      rfl
/-- A row of bytes out of a string: its cells. -/
def RB (W : World) (g : Nat) (xs : List Int) : Prop := ∃ cs : Array Value, W.heap[g]? = some (.cells cs 5 (cs.size, cs.size + 1)) ∧ xs.length ≤ cs.size ∧ ∀ j, j < xs.length → cs[j]? = some (.int .u8 (xs.getD j 0))
theorem RB.lt {W : World} {g : Nat} {xs : List Int} (h : RB W g xs) : g < W.heap.size := by
  obtain ⟨cs, hb, _⟩ := h
  exact (Array.getElem?_eq_some_iff.1 hb).1
theorem RB.cell {W : World} {g : Nat} {xs : List Int} (h : RB W g xs) (j : Nat) (hj : j < xs.length) : W.cell? ⟨g, j, none⟩ = some (.int .u8 (xs.getD j 0)) := by
  obtain ⟨cs, hb, hl, hc⟩ := h
  rw [← hc j hj]
  simp [World.cell?, hb]
theorem RB.frozen {W : World} {g : Nat} {xs : List Int} (h : RB W g xs) (j : Nat) (hj : j < xs.length) : W.frozen? ⟨g, j, none⟩ = false := by
  obtain ⟨cs, hb, hl, hc⟩ := h
  simp only [World.frozen?, hb]
  rw [Bool.and_eq_false_iff]
  left
  rw [decide_eq_false_iff_not]
  show ¬ cs.size ≤ j
  omega
theorem RB.put {W : World} {g : Nat} {xs : List Int} (h : RB W g xs) (j : Nat) (v : Int) : RB (W.setCell ⟨g, j, none⟩ (.int .u8 v)) g (xs.set j v) := by
  obtain ⟨cs, hb, hl, hc⟩ := h
  refine ⟨cs.setIfInBounds j (.int .u8 v), ?_, by simp [hl], fun i hi => ?_⟩
  · simp [World.setCell, Array.getElem?_modify, hb]
  · rw [List.length_set] at hi
    have := hc i hi
    rw [Array.getElem?_setIfInBounds]
    by_cases hij : j = i
    · subst hij
      rw [if_pos rfl, if_pos (by omega)]
      simp [List.getD, List.getElem?_set, hi]
    · rw [if_neg hij, this]
      simp [List.getD, List.getElem?_set, hij]
theorem RB.kept {W W' : World} {g : Nat} {xs : List Int} (h : RB W g xs) (hb : Below W.heap.size W W') : RB W' g xs := by
  have hlt := h.lt
  obtain ⟨cs, h1, h2, h3⟩ := h
  exact ⟨cs, (hb.block g hlt).trans h1, h2, h3⟩
theorem RB.string {W : World} {g : Nat} {xs : List Int} (h : RB W g xs) (n cap : Nat) (hn : xs.length = n) (hs : n ≤ 9223372036854775807) : (convert 23 9 (.slice (some ⟨g, 0, none⟩) n cap)).run Tryd.prog W = .ok (.string (strOfNums xs)) W := by
  refine string_of_reads Tryd.underlying23 Tryd.underlying5 Tryd.underlying9 ⟨hn, hs, fun _ => ⟨_, rfl, fun j hj => ?_⟩⟩
  rw [add_plain]
  exact h.cell j (by omega)
theorem RB.made (W : World) (s : ByteArray) : RB (Lib.bytesWorld W 5 s) W.heap.size (bytesOf s) := by
  refine ⟨Lib.bytesCells W 5 s, Lib.bytesWorld_at_new W 5 s, ?_, fun j hj => ?_⟩
  · rw [bytesOf_length]
    unfold Lib.bytesCells
    rw [Array.size_append, Array.size_map]
    exact Nat.le_add_right _ _
  · rw [bytesOf_length] at hj
    have h := Lib.bytesWorld_cell W 5 s j hj
    unfold World.cell? at h
    rw [Lib.bytesWorld_at_new] at h
    have e : (bytesOf s).getD j 0 = ((s.data.toList.getD j 0).toNat : Int) := by
      have hj2 : j < s.data.toList.length := by rw [data_length]; exact hj
      simp only [bytesOf, List.getD, List.getElem?_map]
      cases s.data.toList[j]? <;> rfl
    rw [e]
    simpa using h
theorem conv_own {ops : Array Oper} {rest : List Oper} {o : Oper} {a : Act} {Q : Exit → Act → World → Prop} {W : World} {x : Operand} (N : Tmp) (hd : o.dst = some N) (hg : o.guard = none) (ho : o.op = .convert 9 23 x) (s : ByteArray) (hx : a.eval x = .string s)
    (k : ∀ w1 g cap, RB w1 g (bytesOf s) → W.heap.size ≤ g → Below W.heap.size W w1 → s.size ≤ cap → wpList Tryd.prog ops Q rest (a.put (some N) (.slice (some ⟨g, 0, none⟩) s.size cap)) w1) : wpList Tryd.prog ops Q (o :: rest) a W := by
  have hrun : (execOp a.eval o).run Tryd.prog W = .ok (.value (.slice (some ⟨W.heap.size, 0, none⟩) s.size (grownCap W s.size 0 5))) (Lib.bytesWorld W 5 s) := by
    unfold execOp
    simp only [ho, hx, Sem.run_bind, print_bytes 9 23 5 Tryd.underlying9 Tryd.underlying23 Tryd.underlying5 s W, Result.andThen_ok, Sem.run_pure]
  refine Kd.event_run hg hrun ?_
  rw [hd]
  exact k _ _ _ (RB.made W s) (Nat.le_refl _) (bytes_below (Below.refl _ _) (Nat.le_refl _) 5 s) (grownCap_ge _ _ _ _)
/-- What the turning round has done so far. -/
def Turned (L xs : List Int) (i : Nat) : Prop := xs.length = L.length ∧ ∀ j, j < L.length → xs.getD j 0 = if j < i ∨ L.length - i ≤ j then L.getD (L.length - 1 - j) 0 else L.getD j 0
theorem Turned.step {L xs : List Int} {i : Nat} (h : Turned L xs i) (hi : i < L.length / 2) : Turned L ((xs.set i (xs.getD (L.length - 1 - i) 0)).set (L.length - 1 - i) (xs.getD i 0)) (i + 1) := by
  obtain ⟨h1, h2⟩ := h
  refine ⟨by rw [List.length_set, List.length_set, h1], fun j hj => ?_⟩
  have ei := h2 i (by omega)
  have em := h2 (L.length - 1 - i) (by omega)
  rw [if_neg (by omega)] at ei em
  have ej := h2 j hj
  have hx : ((xs.set i (xs.getD (L.length - 1 - i) 0)).set (L.length - 1 - i) (xs.getD i 0)).getD j 0 = if j = L.length - 1 - i then xs.getD i 0 else if j = i then xs.getD (L.length - 1 - i) 0 else xs.getD j 0 := by
    rw [List.getD_eq_getElem?_getD, List.getElem?_set]
    by_cases g1 : L.length - 1 - i = j
    · rw [if_pos g1, if_pos (by rw [List.length_set]; omega), if_pos g1.symm]
      rfl
    · rw [if_neg g1, if_neg (fun e => g1 e.symm), List.getElem?_set]
      by_cases g2 : i = j
      · rw [if_pos g2, if_pos (by omega), if_pos g2.symm]
        rfl
      · rw [if_neg g2, if_neg (fun e => g2 e.symm), ← List.getD_eq_getElem?_getD]
  rw [hx]
  by_cases g1 : j = L.length - 1 - i
  · rw [if_pos g1, if_pos (by omega), ei, g1, show L.length - 1 - (L.length - 1 - i) = i by omega]
  · rw [if_neg g1]
    by_cases g2 : j = i
    · rw [if_pos g2, if_pos (by omega), em, g2]
    · rw [if_neg g2, ej]
      by_cases g3 : j < i ∨ L.length - i ≤ j
      · rw [if_pos g3, if_pos (by omega)]
      · rw [if_neg g3, if_neg (by omega)]
theorem Turned.done {L xs : List Int} {i : Nat} (h : Turned L xs i) (hi : i = L.length / 2) : xs = L.reverse := by
  obtain ⟨h1, h2⟩ := h
  refine List.ext_getElem (by rw [h1, List.length_reverse]) (fun j hj hj2 => ?_)
  have hj3 : j < L.length := by omega
  have e := h2 j hj3
  have e2 : xs.getD j 0 = L.getD (L.length - 1 - j) 0 := by
    rw [e]
    by_cases g : j < i ∨ L.length - i ≤ j
    · rw [if_pos g]
    · rw [if_neg g, show L.length - 1 - j = j by omega]
  rw [List.getElem_reverse]
  simpa [List.getD, hj3, hj, show L.length - 1 - j < L.length by omega] using e2
theorem sumL_append (l m : List Int) : sumL (l ++ m) = sumL l + sumL m := by
  induction l with
  | nil => simp [sumL]
  | cons a l ih =>
    simp only [sumL, List.cons_append, List.foldr_cons] at ih ⊢
    omega
theorem sumL_reverse (l : List Int) : sumL l.reverse = sumL l := by
  induction l with
  | nil => rfl
  | cons a l ih =>
    rw [List.reverse_cons, sumL_append, ih]
    simp only [sumL, List.foldr_cons, List.foldr_nil]
    omega
theorem bucketB_turned (a : ByteArray) : bucketB (strOfNums (bytesOf a).reverse) = bucketB a := by
  have hI : IsB (bytesOf a).reverse := fun x hx => isB_bytesOf a x (List.mem_reverse.mp hx)
  unfold bucketB
  rw [nums_bytes hI, sumL_reverse, size_nums, List.length_reverse, bytesOf_length]
theorem bucketB_range (a : ByteArray) : 0 ≤ (bucketB a).1 ∧ (bucketB a).1 < 4 := by
  unfold bucketB
  split
  · have := (sumL_range (isB_bytesOf a)).1
    show 0 ≤ sumL (bytesOf a) % 4 ∧ sumL (bytesOf a) % 4 < 4
    omega
  · exact ⟨by simp, by simp⟩
set_option maxHeartbeats 4000000 in
set_option maxRecDepth 100000 in
theorem NameOrder.big0 (a b c : ByteArray) (w : World) (hV : VarsOk w) (h : (a.size : Int) > 5000) : Calls Tryd.prog 7 #[.string a, .string b, .string c] w fun e w' => e = .returned (.bool true) ∧ Below w.heap.size w w' := by
  have HV := Aside0.mk hV
  have g1 : decide ((a.size : Int) > 5000) = true := decide_eq_true h
  have g2 : decide ((5000 : Int) < (a.size : Int)) = true := decide_eq_true h
  clear hV
  go_enter Tryd.func7, Tryd.ntmps7
  go_wp2_with (go_at_call 9; (with_reducible refine (twoslotlaw21_alive.calls 100 true _ HV.out alive100).mono ?_); rintro e w1 ⟨rfl, hb⟩; have HB := Aside0.mk hb; clear hb)
  go_ret
  exact ⟨rfl, HB.out⟩
set_option maxHeartbeats 4000000 in
set_option maxRecDepth 100000 in
theorem NameOrder.big1 (a b c : ByteArray) (w : World) (hV : VarsOk w) (h0 : ¬ (a.size : Int) > 5000) (h : (b.size : Int) > 5000) : Calls Tryd.prog 7 #[.string a, .string b, .string c] w fun e w' => e = .returned (.bool true) ∧ Below w.heap.size w w' := by
  have HV := Aside0.mk hV
  have g1 : decide ((a.size : Int) > 5000) = false := decide_eq_false h0
  have g2 : decide ((b.size : Int) > 5000) = true := decide_eq_true h
  have g3 : (5000 : Int) < (b.size : Int) := h
  clear hV
  go_enter Tryd.func7, Tryd.ntmps7
  go_wp2_with (go_at_call 9; (with_reducible refine (twoslotlaw21_alive.calls 100 true _ HV.out alive100).mono ?_); rintro e w1 ⟨rfl, hb⟩; have HB := Aside0.mk hb; clear hb)
  go_ret
  exact ⟨rfl, HB.out⟩
set_option maxHeartbeats 4000000 in
set_option maxRecDepth 100000 in
theorem NameOrder.big2 (a b c : ByteArray) (w : World) (hV : VarsOk w) (h0 : ¬ (a.size : Int) > 5000) (h1 : ¬ (b.size : Int) > 5000) (h : (c.size : Int) > 5000) : Calls Tryd.prog 7 #[.string a, .string b, .string c] w fun e w' => e = .returned (.bool true) ∧ Below w.heap.size w w' := by
  have HV := Aside0.mk hV
  have g1 : decide ((a.size : Int) > 5000) = false := decide_eq_false h0
  have g2 : decide ((b.size : Int) > 5000) = false := decide_eq_false h1
  have g3 : decide ((c.size : Int) > 5000) = true := decide_eq_true h
  clear hV
  go_enter Tryd.func7, Tryd.ntmps7
  go_wp2_with (go_at_call 9; (with_reducible refine (twoslotlaw21_alive.calls 100 true _ HV.out alive100).mono ?_); rintro e w1 ⟨rfl, hb⟩; have HB := Aside0.mk hb; clear hb)
  go_ret
  exact ⟨rfl, HB.out⟩
set_option maxHeartbeats 40000000 in
set_option maxRecDepth 100000 in
theorem NameOrder.core (a b c : ByteArray) (w : World) (hV : VarsOk w) (h0 : ¬ (a.size : Int) > 5000) (h1 : ¬ (b.size : Int) > 5000) (h2 : ¬ (c.size : Int) > 5000) (q1 q2 q3 q4 qe : Bool) (hok : (q1 && q2 || ((!q1 && !q2) != qe) || (q1 && q3 && !q4)) = false) (e1 : lessB a b = q1) (e2 : lessB b a = q2) (e3 : lessB b c = q3) (e4 : lessB a c = q4) (ee : (a.toList == b.toList) = qe) :
    Calls Tryd.prog 7 #[.string a, .string b, .string c] w fun e w' => e = .returned (.bool true) ∧ Below w.heap.size w w' := by
  have HV := Aside0.mk hV
  have HA := Aside0.mk (show a.size ≤ 5000 by omega)
  have g1 : decide ((a.size : Int) > 5000) = false := decide_eq_false h0
  have g2 : decide ((b.size : Int) > 5000) = false := decide_eq_false h1
  have g3 : decide ((c.size : Int) > 5000) = false := decide_eq_false h2
  obtain ⟨m1, m2, hm⟩ : ∃ m1 m2, bucketB a = (m1, m2) := ⟨_, _, rfl⟩
  have HBK1 := Aside0.mk (show name_Bucket.f 30 a = some (m1, m2) by rw [bucket_ev a 30 (by omega), hm])
  have HBK0 := Aside0.mk (show name_Bucket.f 30 (strOfNums (bytesOf a).reverse) = some (m1, m2) by rw [bucket_ev _ 30 (by omega), bucketB_turned, hm])
  have hmr := bucketB_range a
  rw [hm] at hmr
  have HM := Aside0.mk (show 0 ≤ m1 ∧ m1 < 4 from hmr)
  clear hV h0 h1 h2 hm hmr
  cases q1 <;> cases q2 <;> cases q3 <;> cases q4 <;> cases qe <;> (try exact absurd hok (by decide))
  all_goals
    clear hok
    go_enter Tryd.func7, Tryd.ntmps7
    go_wp2_with (first | (go_at_call 9; (with_reducible refine (twoslotlaw21_alive.calls 100 true _ HV.out alive100).mono ?_); rintro e w1 ⟨rfl, hb⟩; have HB := Aside0.mk hb; clear hb) | (go_at_call 20; (with_reducible refine (name_Less.calls _ _ _ _ (nameLess_ev _ _)).mono ?_); rintro e w2 ⟨rfl, hd⟩; have hb := hd.below; have n_ := Aside0.mk (below_step HB.out hb); clear HB; have HB := n_; clear n_ hb hd) | ((with_reducible refine gate_dst (N := 74) rfl ?_); refine conv_own 74 rfl rfl rfl a (by first | rfl | (go_simp; done)) ?_; intro w3 g cap hrb hgw hb hcap; have HRB := Aside0.mk hrb; have HG := Aside0.mk (And.intro (Nat.le_trans HB.out.size hgw) hcap); have n_ := Aside0.mk (below_step HB.out hb); clear HB; have HB := n_; clear n_ hb hrb hgw hcap))
    clear g1 g2 g3 e1 e2 e3 e4 ee
    go_loopg [13] (a.size) (fun kq v13 wr => ∃ (i : Nat) (xs : List Int), v13 = .int .i64 (i : Int) ∧ Aside0 (i ≤ a.size / 2 ∧ a.size / 2 - i ≤ kq) ∧ Aside0 (Turned (bytesOf a) xs i) ∧ Aside0 (RB wr g xs) ∧ Aside0 (Below w.heap.size w wr))
    case atStart => exact ⟨0, bytesOf a, rfl, Aside0.mk ⟨by omega, by omega⟩, Aside0.mk ⟨rfl, fun j hj => by rw [if_neg (by omega)]⟩, HRB, HB⟩
    case round =>
      clear HRB HB
      obtain ⟨i, xs, rfl, AX, HT, HRB, HB⟩ := hrel
      have hxl : xs.length = a.size := by rw [HT.out.1, bytesOf_length]
      have HXL := Aside0.mk hxl
      obtain ⟨h, hh⟩ : ∃ h : Int, wrap64 ((a.size : Int) / 2) = h := ⟨_, rfl⟩
      have HH := Aside0.mk (show h = ((a.size / 2 : Nat) : Int) by rw [← hh]; have := HA.out; unfold wrap64; omega)
      by_cases hlt : i < a.size / 2
      · have d1 : decide ((i : Int) < h) = true := decide_eq_true (by have := HH.out; omega)
        have d2 : (i : Int) < (a.size : Int) := by omega
        obtain ⟨m, hm⟩ : ∃ m : Int, wrap64 (wrap64 ((a.size : Int) - 1) - (i : Int)) = m := ⟨_, rfl⟩
        have hm2 : m = ((a.size - 1 - i : Nat) : Int) := by rw [← hm, show wrap64 ((a.size : Int) - 1) = (a.size : Int) - 1 by have := HA.out; unfold wrap64; omega]; have := HA.out; unfold wrap64; omega
        have hmn : m.toNat = a.size - 1 - i := by omega
        have d3 : 0 ≤ m := by omega
        have d4 : m < (a.size : Int) := by omega
        have hc1 := HRB.out.cell i (by omega)
        have hf1 := HRB.out.frozen i (by omega)
        have hc2 := HRB.out.cell m.toNat (by omega)
        have hf2 := HRB.out.frozen m.toNat (by omega)
        obtain ⟨x, hx⟩ : ∃ x, xs.getD i 0 = x := ⟨_, rfl⟩
        obtain ⟨y, hy⟩ : ∃ y, xs.getD m.toNat 0 = y := ⟨_, rfl⟩
        rw [hx] at hc1
        rw [hy] at hc2
        have hp1 := HRB.out.put i y
        have hp2 := hp1.put m.toNat x
        have hc3 := hp1.cell m.toNat (by rw [List.length_set]; omega)
        have hf3 := hp1.frozen m.toNat (by rw [List.length_set]; omega)
        have hst := HT.out.step (by rw [bytesOf_length]; exact hlt)
        rw [bytesOf_length, ← hmn, hy, hx] at hst
        have HST := Aside0.mk hst
        have HP2 := Aside0.mk hp2
        have HB2 := Aside0.mk (below_set (below_set HB.out HG.out.1 (j := i) (v := .int .u8 y)) HG.out.1 (j := m.toNat) (v := .int .u8 x))
        have HLT := Aside0.mk hlt
        clear hx hy hst hp1 hp2 hm2 hmn hlt hxl HB
        go_wp2_with (fail)
        go_roundg (gk - 1)
        case measure => have := AX.out; have := HLT.out; omega
        case rel =>
          have h1 := AX.out
          have h2 := HLT.out
          have h3 := HA.out
          exact ⟨i + 1, _, by rw [show wrap64 ((i : Int) + 1) = ((i + 1 : Nat) : Int) by unfold wrap64; omega], Aside0.mk ⟨by omega, by omega⟩, HST, HP2, HB2⟩
      · have d1 : decide ((i : Int) < h) = false := decide_eq_false (by have := HH.out; omega)
        have hxs := HT.out.done (by rw [bytesOf_length]; have := AX.out; omega)
        have HBK2 := Aside0.mk (show name_Bucket.f 30 (strOfNums xs) = some (m1, m2) by rw [hxs]; exact HBK0.out)
        have k1 : 0 ≤ m1 := HM.out.1
        have k2 : m1 < 4 := HM.out.2
        have k3 : decide (m1 ≥ 0) = true := decide_eq_true k1
        have k4 : decide (m1 < 4) = true := decide_eq_true k2
        clear hxs hxl hlt
        go_wp2_with (first | (go_at_call 12; (with_reducible refine (name_Bucket.calls 30 a m1 m2 _ HBK1.out).mono ?_); rintro e w5 ⟨rfl, hb⟩; have n_ := Aside0.mk (below_step HB.out hb); have hr_ := RB.kept HRB.out hb; have hcv := RB.string hr_ a.size cap HXL.out (by have := HA.out; omega); clear HB; have HB := n_; clear n_ hb hr_) | (go_at_call 12; (with_reducible refine (name_Bucket.calls 30 (strOfNums xs) m1 m2 _ HBK2.out).mono ?_); rintro e w6 ⟨rfl, hb⟩; have n_ := Aside0.mk (below_step HB.out hb); clear HB; have HB := n_; clear n_ hb))
        go_ret
        exact ⟨rfl, HB.out⟩
theorem NameOrder.walk (a b c : ByteArray) (w : World) (hV : VarsOk w) (_ : a.size ≤ 140737488351232) (_ : b.size ≤ 140737488351232) (_ : c.size ≤ 140737488351232) : Calls Tryd.prog 7 #[.string a, .string b, .string c] w fun e w' => e = .returned (.bool true) ∧ Below w.heap.size w w' := by
  by_cases h0 : (a.size : Int) > 5000
  · exact NameOrder.big0 a b c w hV h0
  by_cases h1 : (b.size : Int) > 5000
  · exact NameOrder.big1 a b c w hV h0 h1
  by_cases h2 : (c.size : Int) > 5000
  · exact NameOrder.big2 a b c w hV h0 h1 h2
  exact NameOrder.core a b c w hV h0 h1 h2 _ _ _ _ _ (order_ok a b c) rfl rfl rfl rfl rfl
end Go.Proofs.YtmhfgcmgeglmhaaDoor.P
